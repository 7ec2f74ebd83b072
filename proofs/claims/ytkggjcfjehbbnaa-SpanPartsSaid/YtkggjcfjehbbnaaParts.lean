/- The law SpanParts: cuts of all keys, at whatever keys, have each key just once. -/
import Derived.Test.YtkggjcfjehbbnaaSpanAll
import Derived.Test.YtkggjcfjehbbnaaPartsPlain
import Derived.Test.YtkggjcfjehbbnaaFoot
import Derived.Test.YtkggjcfjehbbnaaRows
import Derived.SliceStrings
import Derived.Deep.AppendLies
import Derived.Deep.DeepCutAuto
namespace Go.Proofs.Ytkggjcfjehbbnaa
open Go.RowKit

theorem lt_of_cellX {w : World} {a : Addr} {v : Value} (h : w.cell? a = some v) : a.block < w.heap.size := by
  rcases Nat.lt_or_ge a.block w.heap.size with h1 | h1
  · exact h1
  · simp [World.cell?, Array.getElem?_eq_none h1] at h
theorem flat_app (a b : List Sp) : flat (a ++ b) = flat a ++ flat b := by simp [flat]
def OwnS (w : World) (base g cap : Nat) (l : List Sp) : Prop := w.ownsRow base 23 2 (.slice (some ⟨g, 0, none⟩) l.length cap) l.length (flat l)
theorem OwnS.row {w : World} {base g cap : Nat} {l : List Sp} (h : OwnS w base g cap l) : SpanRow w g 0 l := by
  intro i hi
  have g2 := flat_get l i hi
  have c1 := h.cellAt (i * 2) (by omega)
  have c2 := h.cellAt (i * 2 + 1) (by omega)
  rw [g2.1] at c1; rw [g2.2] at c2
  simpa using ⟨c1, c2⟩
theorem OwnS.facts {w : World} {base g cap : Nat} {l : List Sp} (h : OwnS w base g cap l) : base ≤ g ∧ g < w.heap.size ∧ l.length ≤ cap ∧ cap ≤ 9223372036854775807 := by
  rcases h.2 with ⟨hv, h0⟩ | ⟨g', c, cur, hv, hb, hh, h1, h2, -⟩
  · cases hv
  · simp only [Value.slice.injEq, Option.some.injEq, Addr.mk.injEq, and_true, true_and] at hv
    obtain ⟨rfl, rfl⟩ := hv
    exact ⟨hb, lt_of_block hh, h1, h2⟩
theorem OwnS.keep {w w' : World} {base g cap : Nat} {l : List Sp} (h : OwnS w base g cap l) (k : w'.heap[g]? = w.heap[g]?) : OwnS w' base g cap l := by
  refine ⟨h.1, ?_⟩
  rcases h.2 with ⟨hv, h0⟩ | ⟨g', c, cur, hv, hb, hh, r⟩
  · cases hv
  · have hv' := hv
    simp only [Value.slice.injEq, Option.some.injEq, Addr.mk.injEq, and_true, true_and] at hv'
    obtain ⟨rfl, rfl⟩ := hv'
    exact .inr ⟨g, cap, cur, hv, hb, k.trans hh, r⟩
theorem OwnS.grow {w w' : World} {base g cap : Nat} {l : List Sp} (h : OwnS w base g cap l) (b : Below w.heap.size w w') : OwnS w' base g cap l := h.keep (b.block g h.facts.2.1)
theorem stay_mk {w3 W : World} (hb : Below w3.heap.size w3 W) : Below w3.heap.size w3 W ∧ ∀ b o', b < w3.heap.size → W.cell? ⟨b, o', none⟩ = w3.cell? ⟨b, o', none⟩ :=
  ⟨hb, fun b o hbo => (bcell hb).1 b o hbo⟩

theorem ownv_shape {w : World} {base n : Nat} {v : Value} {l : List Sp} (h : w.ownsRow base 23 2 v n (flat l)) (hn : 0 < n) : ∃ g cap, v = .slice (some ⟨g, 0, none⟩) n cap ∧ w.ownsRow base 23 2 (.slice (some ⟨g, 0, none⟩) n cap) n (flat l) := by
  rcases h.2 with ⟨hv, h0⟩ | ⟨g, c, cur, hv, -⟩
  · omega
  · exact ⟨g, c, hv, hv ▸ h⟩
/-- Where the two parts of a cut lie that are to be laid in. -/
def BCells (w : World) (b : Nat) (l : List Sp) : Prop := ∀ ad, some (⟨b, 0, none⟩ : Addr) = some ad → ∀ j u, (flat l)[j]? = some u → w.cell? (ad.add j) = some u
theorem bcells_new (w : World) (n : Nat) (hn : n = w.heap.size) (f k k' t : ByteArray) : BCells (w.alloc (.cells #[.string f, .string k, .string k', .string t] 23)) n [(f, k), (k', t)] := by
  subst hn
  intro ad had j u hu
  obtain rfl : ad = ⟨w.heap.size, 0, none⟩ := by simpa using had.symm
  exact World.news_of_block (heap_new w _) j u (by simpa [flat] using hu)
theorem BCells.grown {w w' : World} {b : Nat} {l : List Sp} {row : Option Nat} (h : BCells w b l) (hb : b < w.heap.size) (hg : w.grownBy w' row) (hne : row ≠ some b) : BCells w' b l := by
  intro ad had j u hu
  have := h ad had j u hu
  obtain rfl : ad = ⟨b, 0, none⟩ := by simpa using had.symm
  rw [add_none] at this ⊢
  exact (hg.cell_far ⟨b, _, none⟩ hb (fun e => hne e.symm)).trans this
theorem BCells.alloc {w : World} {b : Nat} {l : List Sp} (h : BCells w b l) (o : Obj) : BCells (w.alloc o) b l := by
  intro ad had j u hu
  have := h ad had j u hu
  obtain rfl : ad = ⟨b, 0, none⟩ := by simpa using had.symm
  rw [add_none] at this ⊢
  exact (World.cell?_alloc_past _ _ _ (lt_of_cellX this)).trans this
theorem ownne {b c o n m : Nat} (h : b ≠ c) : (Value.slice (some ⟨b, o, none⟩) n m).ownBlock ≠ some c := by simp [Value.ownBlock, h]
theorem BCells.drew {w : World} {b : Nat} {l : List Sp} (h : BCells w b l) : BCells w.drew b l := h
theorem owns_drew {w : World} {base : Nat} {e : TypeId} {size n : Nat} {v : Value} {xs : List Value} (h : w.ownsRow base e size v n xs) : w.drew.ownsRow base e size v n xs := h
def OwnV (w : World) (base : Nat) (v : Value) (n : Nat) (l : List Sp) : Prop := w.ownsRow base 23 2 v n (flat l)
theorem OwnV.alloc {w : World} {base n : Nat} {v : Value} {l : List Sp} (h : OwnV w base v n l) (o : Obj) : OwnV (w.alloc o) base v n l := World.ownsRow.alloc h o
/-- Rows of a longer row of spans: where they lie. -/
theorem take_cells {w w0 : World} {base g cap : Nat} {l : List Sp} (h : OwnS w base g cap l) (hb : Below w.heap.size w w0) (k : Nat) : ∀ ad, some (⟨g, 0, none⟩ : Addr) = some ad → ∀ j u, (flat (l.take k))[j]? = some u → w0.cell? (ad.add j) = some u := by
  intro ad had
  obtain rfl : ad = ⟨g, 0, none⟩ := by simpa using had.symm
  refine flat_cells (off := 0) fun i hi => ?_
  have hi' : i < l.length := by rw [List.length_take] at hi; omega
  have := (h.grow hb).row i hi'
  rw [List.getElem_take]
  exact this
theorem drop_cells {w w0 : World} {base g cap : Nat} {l : List Sp} (h : OwnS w base g cap l) (hb : Below w.heap.size w w0) (k : Nat) (ao : Option Addr) (hao : k < l.length → ao = some ⟨g, k * 2, none⟩) : ∀ ad, ao = some ad → ∀ j u, (flat (l.drop k))[j]? = some u → w0.cell? (ad.add j) = some u := by
  intro ad had j u hu
  by_cases hk : k < l.length
  · rw [hao hk] at had
    obtain rfl : ad = ⟨g, k * 2, none⟩ := by simpa using had.symm
    revert j u
    refine flat_cells (off := k * 2) fun i hi => ?_
    have hi' : k + i < l.length := by rw [List.length_drop] at hi; omega
    have := (h.grow hb).row (k + i) hi'
    rw [List.getElem_drop, show k * 2 + i * 2 = 0 + (k + i) * 2 from by omega]
    exact this
  · rw [List.drop_eq_nil_of_le (by omega)] at hu
    simp [flat] at hu

set_option maxRecDepth 100000 in
set_option maxHeartbeats 8000000 in
theorem parts_walk (ao : Option Addr) (acap : Nat) (at_ : List ByteArray) (x : ByteArray) (W : World) (hm : at_.length ≤ 9223372036854775807) (hrow : 0 < at_.length → ∃ b off, ao = some ⟨b, off, none⟩ ∧ b < W.heap.size ∧ ∀ i, (hi : i < at_.length) → W.cell? ⟨b, off + i, none⟩ = some (.string at_[i])) :
    Calls Try.prog 8 #[.slice ao at_.length acap, .string x] W fun e w' => e = .returned (.bool true) ∧ Below W.heap.size W w' := by
  have Hrow := Lib.hid hrow
  clear hrow
  obtain ⟨i0, hi, hz0, hz1, hz2⟩ := info_parts spanInfo
  by_cases hbig : (30 : Int) < at_.length
  · go_enter Try.func8, Try.ntmps8
    go_wp2_with fail
    go_ret
    exact ⟨rfl, (by repeat (first | with_reducible exact Below.refl _ _ | with_reducible assumption | with_reducible refine Below.drew ?_ | with_reducible refine below_drawn ?_ | with_reducible refine Below.alloc ?_ (by first | omega | (simp; done) | (simp; omega) | (simp at *; omega)) _ | with_reducible refine Below.setCell ?_ (by first | omega | (simp; done) | (simp; omega) | (simp at *; omega)) _ | with_reducible refine Below.trans ?_ (Below.mono (by assumption) (by first | omega | (simp; done) | (simp; omega) | (simp at *; omega)))))⟩
  by_cases hx1 : (x.size : Int) < 1
  · go_enter Try.func8, Try.ntmps8
    go_wp2_with fail
    go_ret
    exact ⟨rfl, (by repeat (first | with_reducible exact Below.refl _ _ | with_reducible assumption | with_reducible refine Below.drew ?_ | with_reducible refine below_drawn ?_ | with_reducible refine Below.alloc ?_ (by first | omega | (simp; done) | (simp; omega) | (simp at *; omega)) _ | with_reducible refine Below.setCell ?_ (by first | omega | (simp; done) | (simp; omega) | (simp at *; omega)) _ | with_reducible refine Below.trans ?_ (Below.mono (by assumption) (by first | omega | (simp; done) | (simp; omega) | (simp at *; omega)))))⟩
  by_cases hx2 : (16 : Int) < x.size
  · go_enter Try.func8, Try.ntmps8
    go_wp2_with fail
    go_ret
    exact ⟨rfl, (by repeat (first | with_reducible exact Below.refl _ _ | with_reducible assumption | with_reducible refine Below.drew ?_ | with_reducible refine below_drawn ?_ | with_reducible refine Below.alloc ?_ (by first | omega | (simp; done) | (simp; omega) | (simp at *; omega)) _ | with_reducible refine Below.setCell ?_ (by first | omega | (simp; done) | (simp; omega) | (simp at *; omega)) _ | with_reducible refine Below.trans ?_ (Below.mono (by assumption) (by first | omega | (simp; done) | (simp; omega) | (simp at *; omega)))))⟩
  have hst : OwnS (W.alloc (.cells #[.string ⟨#[]⟩, .string ⟨#[]⟩] 23)) W.heap.size W.heap.size 1 [((⟨#[]⟩ : ByteArray), (⟨#[]⟩ : ByteArray))] := World.ownsRow_lit W #[.string ⟨#[]⟩, .string ⟨#[]⟩] 1 (Nat.le_refl _) (by unfold maxLen; omega) (by simp)
  have Hst := Lib.hid hst
  clear hst
  go_enter Try.func8, Try.ntmps8
  go_wp2_with fail
  go_loopw [5, 6] (fun s5 s6 wr => ∃ (i : Nat) (l : List Sp) (g cap : Nat), s6 = .int .i64 i ∧ s5 = .slice (some ⟨g, 0, none⟩) l.length cap ∧ i ≤ at_.length ∧ 1 ≤ l.length ∧ l.length ≤ i + 1 ∧ l.length ≤ cap ∧ cap ≤ 9223372036854775807 ∧ W.heap.size ≤ g ∧ g < wr.heap.size ∧ Hid (OwnS wr W.heap.size g cap l) ∧ Hid (Chain [] l) ∧ Hid (Below W.heap.size W wr)) (fun _ s6 _ => at_.length - (intOf s6).toNat)
  case atStart => exact ⟨0, _, W.heap.size, 1, rfl, rfl, by omega, by simp, by simp, by simp, by omega, by omega, by simp, Hst, chain_start, Lib.hid (by repeat (first | with_reducible exact Below.refl _ _ | with_reducible assumption | with_reducible refine Below.drew ?_ | with_reducible refine below_drawn ?_ | with_reducible refine Below.alloc ?_ (by first | omega | (simp; done) | (simp; omega) | (simp at *; omega)) _ | with_reducible refine Below.setCell ?_ (by first | omega | (simp; done) | (simp; omega) | (simp at *; omega)) _ | with_reducible refine Below.trans ?_ (Below.mono (by assumption) (by first | omega | (simp; done) | (simp; omega) | (simp at *; omega)))))⟩
  case round =>
    clear Hst
    obtain ⟨i, l, g, cap, rfl, rfl, hi1, hl1, hl2, hcap, hcm, hgW, hg, Hown, Hch, Hb⟩ := hrel
    by_cases hlt : i < at_.length
    · obtain ⟨ab, ao', rfl, hab, har⟩ := Hrow.out (by omega)
      obtain ⟨key, hkey⟩ : ∃ key, key = at_[i] := ⟨_, rfl⟩
      have hca : wr.cell? ⟨ab, ao' + i, none⟩ = some (.string key) := (Hb.out.cell (p := ⟨ab, ao' + i, none⟩) hab).trans (by rw [hkey]; exact har i hlt)
      clear hkey har
      have hsW := Hb.out.size
      have Hca := Lib.hid (⟨hca, hab⟩ : _ ∧ _)
      clear hca
      go_wp2_with fail
      go_loopw [5, 7] (fun s5 s7 wk => ∃ k : Nat, s7 = .int .i64 k ∧ s5 = .slice (some ⟨g, 0, none⟩) l.length cap ∧ k ≤ l.length ∧ Hid (Below wr.heap.size wr wk)) (fun _ s7 _ => l.length - (intOf s7).toNat)
      case atStart => exact ⟨0, rfl, rfl, by omega, Below.refl _ _⟩
      case round =>
        obtain ⟨k, rfl, rfl, hk, Hbk⟩ := hrel
        have hsk := Hbk.out.size
        by_cases hkl : k < l.length
        · have Hownk := Lib.hid (Hown.out.grow Hbk.out)
          have hck := Hownk.out.row k hkl
          obtain ⟨f, hf⟩ : ∃ f, f = l[k].1 := ⟨_, rfl⟩
          obtain ⟨t, ht⟩ : ∃ t, t = l[k].2 := ⟨_, rfl⟩
          rw [← hf, ← ht, Nat.zero_add] at hck
          have Hft := Lib.hid (⟨hf, ht⟩ : _ ∧ _)
          obtain ⟨hc1, hc2⟩ := hck
          have hca := (Hbk.out.cell (p := ⟨ab, ao' + i, none⟩) (show ab < _ by have := Hca.out.2; omega)).trans Hca.out.1
          clear hf ht
          have hg' : g < wr.heap.size := by omega
          have hab' : ab < wr.heap.size := by have := Hca.out.2; omega
          go_upto_region 10 with fail
          go_cut [8, 9, 10] (fun s8 s9 s10 wx => ∃ p q : Nat, s8 = .pointer (some ⟨p, 0, none⟩) ∧ s9 = .pointer (some ⟨q, 0, none⟩) ∧ s10 = .bool (cutOk f t key) ∧ wr.heap.size ≤ p ∧ p < wx.heap.size ∧ wr.heap.size ≤ q ∧ q < wx.heap.size ∧ wx.cell? ⟨p, 0, none⟩ = some (.string (sel (cutOk f t key) f)) ∧ wx.cell? ⟨p, 1, none⟩ = some (.string (sel (cutOk f t key) key)) ∧ wx.cell? ⟨q, 0, none⟩ = some (.string (sel (cutOk f t key) key)) ∧ wx.cell? ⟨q, 1, none⟩ = some (.string (sel (cutOk f t key) t)) ∧ Hid (Below wr.heap.size wr wx))
          case first =>
            have k0 := Nat.zero_le k
            go_region_held3 (fun W => Below wr.heap.size wr W ∧ ∀ b o, b < wr.heap.size → W.cell? ⟨b, o, none⟩ = wr.cell? ⟨b, o, none⟩) (first | exact stay_drew _ | exact stay_next (by assumption) (by assumption) | exact stay_mk (by repeat (first | with_reducible exact Below.refl _ _ | with_reducible exact stay_below (by assumption) | with_reducible refine Below.drew ?_ | with_reducible refine Below.alloc ?_ (by first | omega | (simp; done) | (simp; omega) | (simp at *; omega)) _ | with_reducible refine Below.setCell ?_ (by first | omega | (simp; done) | (simp; omega) | (simp at *; omega)) _ | with_reducible refine Below.trans ?_ (Below.mono (by assumption) (by first | omega | (simp; done) | (simp; omega) | (simp at *; omega)))))) ((go_at_call 10; refine (span_cut f t key _).mono ?_; rintro e W' ⟨rfl, hbw⟩; have hbz := hbw.size; (try simp at hbz); (try have hz1 : wr.heap.size < W'.heap.size := (by omega)); (try have hz2 : wr.heap.size + 1 < W'.heap.size := (by omega)); (try have hqa0 : W'.cell? ⟨wr.heap.size, 0, none⟩ = some (.string ⟨#[]⟩) := (by rw [(bcell hbw).1 wr.heap.size 0 (by first | (simp; done) | (simp; omega))]; go_simp)); (try have fqa0 : W'.frozen? ⟨wr.heap.size, 0, none⟩ = false := (by rw [(bcell hbw).2 wr.heap.size 0 (by first | (simp; done) | (simp; omega))]; go_simp)); (try have hqa1 : W'.cell? ⟨wr.heap.size, 1, none⟩ = some (.string ⟨#[]⟩) := (by rw [(bcell hbw).1 wr.heap.size 1 (by first | (simp; done) | (simp; omega))]; go_simp)); (try have fqa1 : W'.frozen? ⟨wr.heap.size, 1, none⟩ = false := (by rw [(bcell hbw).2 wr.heap.size 1 (by first | (simp; done) | (simp; omega))]; go_simp)); (try have hqb0 : W'.cell? ⟨(wr.heap.size + 1), 0, none⟩ = some (.string ⟨#[]⟩) := (by rw [(bcell hbw).1 (wr.heap.size + 1) 0 (by first | (simp; done) | (simp; omega))]; go_simp)); (try have fqb0 : W'.frozen? ⟨(wr.heap.size + 1), 0, none⟩ = false := (by rw [(bcell hbw).2 (wr.heap.size + 1) 0 (by first | (simp; done) | (simp; omega))]; go_simp)); (try have hqb1 : W'.cell? ⟨(wr.heap.size + 1), 1, none⟩ = some (.string ⟨#[]⟩) := (by rw [(bcell hbw).1 (wr.heap.size + 1) 1 (by first | (simp; done) | (simp; omega))]; go_simp)); (try have fqb1 : W'.frozen? ⟨(wr.heap.size + 1), 1, none⟩ = false := (by rw [(bcell hbw).2 (wr.heap.size + 1) 1 (by first | (simp; done) | (simp; omega))]; go_simp))))
            all_goals (go_wp2_with fail; go_meet; refine ⟨_, _, rfl, rfl, rfl, ?_, ?_, ?_, ?_, ?_, ?_, ?_, ?_, Lib.hid (by repeat (first | with_reducible exact Below.refl _ _ | with_reducible assumption | with_reducible refine Below.drew ?_ | with_reducible refine below_drawn ?_ | with_reducible refine Below.alloc ?_ (by first | omega | (simp; done) | (simp; omega) | (simp at *; omega)) _ | with_reducible refine Below.setCell ?_ (by first | omega | (simp; done) | (simp; omega) | (simp at *; omega)) _ | with_reducible refine Below.trans ?_ (Below.mono (by assumption) (by first | omega | (simp; done) | (simp; omega) | (simp at *; omega)))))⟩)
            all_goals first | omega | (go_simp; done) | (simp; omega) | skip
          case rest =>
            obtain ⟨p, q, rfl, rfl, rfl, hp1, hp2, hq1, hq2, d1, d2, d3, d4, Hbx⟩ := hcut
            have hsx := Hbx.out.size
            clear hca hc1 hc2
            cases hok : cutOk f t key
            · clear d1 d2 d3 d4
              go_wp2_with fail
              go_roundw
              case rel => exact ⟨k + 1, by go_num, rfl, by omega, Hbk.out.trans (Hbx.out.mono (by omega))⟩
              case measure => simp [intOf]; omega
            · rw [hok] at d1 d2 d3 d4
              simp only [sel, if_true] at d1 d2 d3 d4
              have Hok := Lib.hid hok
              clear hok
              obtain ⟨wo, rfl⟩ : ∃ wo : World, wo = wc := ⟨_, rfl⟩
              have Hownx := Lib.hid (Hownk.out.grow Hbx.out)
              have hbase := Nat.le_refl wo.heap.size
              have hlk : (l.take k).length = k := by rw [List.length_take, Nat.min_eq_left hk]
              have hfk : (flat (l.take k)).length = k * 2 := by rw [flat_length, hlk]
              have Hlk := Lib.hid (⟨hlk, hfk⟩ : _ ∧ _)
              clear hlk hfk
              have hkc : k ≤ cap := by omega
              have hkc1 : (k : Int) ≤ cap := by omega
              have hkc2 : (0 : Int) ≤ k := by omega
              go_upto_region 12 with fail
              go_cut [11] (fun s11 wx => OwnV wx wo.heap.size s11 (k + 2) (l.take k ++ [(f, key), (key, t)]) ∧ Hid (Below wo.heap.size wo wx))
              case first =>
                have k0 := Nat.zero_le k
                go_region_held3 (fun W => Below wo.heap.size wo W ∧ ∀ b o, b < wo.heap.size → W.cell? ⟨b, o, none⟩ = wo.cell? ⟨b, o, none⟩) (first | exact stay_drew _ | exact stay_next (by assumption) (by assumption) | exact stay_mk (by repeat (first | with_reducible exact Below.refl _ _ | with_reducible exact stay_below (by assumption) | with_reducible refine Below.drew ?_ | with_reducible refine Below.alloc ?_ (by first | omega | (simp; done) | (simp; omega) | (simp at *; omega)) _ | with_reducible refine Below.setCell ?_ (by first | omega | (simp; done) | (simp; omega) | (simp at *; omega)) _ | with_reducible refine Below.trans ?_ (Below.mono (by assumption) (by first | omega | (simp; done) | (simp; omega) | (simp at *; omega)))))) (first | ((refine step_append_any _ (by rfl) (.tmp 55) (.tmp 58) 35 (by rfl) wo.heap.size 23 i0 (.agg #[.string ⟨#[]⟩, .string ⟨#[]⟩]) 2 32 Try.underlying35 hi hz0 hz1 hz2 rfl (by decide) (.slice (some ⟨wo.heap.size, 0, none⟩) 0 0) 0 [] (by rfl) ?_ (some ⟨g, 0, none⟩) k cap (flat (l.take k)) (by first | rfl | simp) (fun h => (nomatch h)) Hlk.out.2 ?_ (flat_one _) (by unfold maxLen; omega) (by omega) ?_ ?_); (exact (by first | exact owns_drew (owns_emptyAt _ _ (by first | rfl | (simp; done)) _ (by first | omega | (simp; done)) _ _) | exact owns_drew (World.ownsRow.alloc (owns_emptyAt _ _ (by first | rfl | (simp; done)) _ (by first | omega | (simp; done)) _ _) _) | exact owns_emptyAt _ _ (by first | rfl | (simp; done)) _ (by first | omega | (simp; done)) _ _ | exact World.ownsRow.alloc (owns_emptyAt _ _ (by first | rfl | (simp; done)) _ (by first | omega | (simp; done)) _ _) _)); (go_must (exact take_cells Hownx.out (by repeat (first | with_reducible exact Below.refl _ _ | with_reducible assumption | with_reducible refine Below.drew ?_ | with_reducible refine below_drawn ?_ | with_reducible refine Below.alloc ?_ (by first | omega | (simp; done) | (simp; omega) | (simp at *; omega)) _ | with_reducible refine Below.setCell ?_ (by first | omega | (simp; done) | (simp; omega) | (simp at *; omega)) _ | with_reducible refine Below.trans ?_ (Below.mono (by assumption) (by first | omega | (simp; done) | (simp; omega) | (simp at *; omega))))) k)); (focus first | (simp; done) | (simp; omega)); intro v59 w59 hown hgrow; (have hbw : Below wo.heap.size wo w59 := (by (refine below_grown (by repeat (first | with_reducible exact Below.refl _ _ | with_reducible assumption | with_reducible refine Below.drew ?_ | with_reducible refine below_drawn ?_ | with_reducible refine Below.alloc ?_ (by first | omega | (simp; done) | (simp; omega) | (simp at *; omega)) _ | with_reducible refine Below.setCell ?_ (by first | omega | (simp; done) | (simp; omega) | (simp at *; omega)) _ | with_reducible refine Below.trans ?_ (Below.mono (by assumption) (by first | omega | (simp; done) | (simp; omega) | (simp at *; omega))))) (by first | (simp; done) | (simp; omega)) hgrow (fun k hk => ?_); (simp only [Value.ownBlock, Option.some.injEq] at hk); subst hk; first | (simp; done) | (simp; omega)))); (have hzz1 : wo.heap.size < w59.heap.size := (by go_must ((have := hgrow.size); (simp at this); first | omega | assumption))); (try have nb1 : BCells w59 (wo.heap.size) [(f, key), (key, t)] := BCells.grown (by first | exact BCells.drew (bcells_new _ wo.heap.size (by first | rfl | (simp; done)) f key key t) | exact BCells.drew ((bcells_new _ wo.heap.size (by first | rfl | (simp; done)) f key key t).alloc _) | exact bcells_new _ wo.heap.size (by first | rfl | (simp; done)) f key key t | exact (bcells_new _ wo.heap.size (by first | rfl | (simp; done)) f key key t).alloc _) (by first | (simp; done) | (simp; omega)) hgrow (ownne (by omega))); (try have nb2 : BCells w59 (wo.heap.size + 1) [(f, key), (key, t)] := BCells.grown (by first | exact BCells.drew (bcells_new _ (wo.heap.size + 1) (by first | rfl | (simp; done)) f key key t) | exact BCells.drew ((bcells_new _ (wo.heap.size + 1) (by first | rfl | (simp; done)) f key key t).alloc _) | exact bcells_new _ (wo.heap.size + 1) (by first | rfl | (simp; done)) f key key t | exact (bcells_new _ (wo.heap.size + 1) (by first | rfl | (simp; done)) f key key t).alloc _) (by first | (simp; done) | (simp; omega)) hgrow (ownne (by omega))); (have ho59 : OwnV w59 wo.heap.size v59 k (l.take k) := (by rw [Nat.zero_add, List.nil_append] at hown; exact hown)); clear hown hgrow) | ((refine step_append_any _ (by rfl) (.tmp 55) (.tmp 58) 35 (by rfl) wo.heap.size 23 i0 (.agg #[.string ⟨#[]⟩, .string ⟨#[]⟩]) 2 32 Try.underlying35 hi hz0 hz1 hz2 rfl (by decide) (.slice (some ⟨wo.heap.size + 1, 0, none⟩) 0 0) 0 [] (by rfl) ?_ (some ⟨g, 0, none⟩) k cap (flat (l.take k)) (by first | rfl | simp) (fun h => (nomatch h)) Hlk.out.2 ?_ (flat_one _) (by unfold maxLen; omega) (by omega) ?_ ?_); (exact (by first | exact owns_drew (owns_emptyAt _ _ (by first | rfl | (simp; done)) _ (by first | omega | (simp; done)) _ _) | exact owns_drew (World.ownsRow.alloc (owns_emptyAt _ _ (by first | rfl | (simp; done)) _ (by first | omega | (simp; done)) _ _) _) | exact owns_emptyAt _ _ (by first | rfl | (simp; done)) _ (by first | omega | (simp; done)) _ _ | exact World.ownsRow.alloc (owns_emptyAt _ _ (by first | rfl | (simp; done)) _ (by first | omega | (simp; done)) _ _) _)); (go_must (exact take_cells Hownx.out (by repeat (first | with_reducible exact Below.refl _ _ | with_reducible assumption | with_reducible refine Below.drew ?_ | with_reducible refine below_drawn ?_ | with_reducible refine Below.alloc ?_ (by first | omega | (simp; done) | (simp; omega) | (simp at *; omega)) _ | with_reducible refine Below.setCell ?_ (by first | omega | (simp; done) | (simp; omega) | (simp at *; omega)) _ | with_reducible refine Below.trans ?_ (Below.mono (by assumption) (by first | omega | (simp; done) | (simp; omega) | (simp at *; omega))))) k)); (focus first | (simp; done) | (simp; omega)); intro v59 w59 hown hgrow; (have hbw : Below wo.heap.size wo w59 := (by (refine below_grown (by repeat (first | with_reducible exact Below.refl _ _ | with_reducible assumption | with_reducible refine Below.drew ?_ | with_reducible refine below_drawn ?_ | with_reducible refine Below.alloc ?_ (by first | omega | (simp; done) | (simp; omega) | (simp at *; omega)) _ | with_reducible refine Below.setCell ?_ (by first | omega | (simp; done) | (simp; omega) | (simp at *; omega)) _ | with_reducible refine Below.trans ?_ (Below.mono (by assumption) (by first | omega | (simp; done) | (simp; omega) | (simp at *; omega))))) (by first | (simp; done) | (simp; omega)) hgrow (fun k hk => ?_); (simp only [Value.ownBlock, Option.some.injEq] at hk); subst hk; first | (simp; done) | (simp; omega)))); (have hzz1 : wo.heap.size < w59.heap.size := (by go_must ((have := hgrow.size); (simp at this); first | omega | assumption))); (try have nb1 : BCells w59 (wo.heap.size) [(f, key), (key, t)] := BCells.grown (by first | exact BCells.drew (bcells_new _ wo.heap.size (by first | rfl | (simp; done)) f key key t) | exact BCells.drew ((bcells_new _ wo.heap.size (by first | rfl | (simp; done)) f key key t).alloc _) | exact bcells_new _ wo.heap.size (by first | rfl | (simp; done)) f key key t | exact (bcells_new _ wo.heap.size (by first | rfl | (simp; done)) f key key t).alloc _) (by first | (simp; done) | (simp; omega)) hgrow (ownne (by omega))); (try have nb2 : BCells w59 (wo.heap.size + 1) [(f, key), (key, t)] := BCells.grown (by first | exact BCells.drew (bcells_new _ (wo.heap.size + 1) (by first | rfl | (simp; done)) f key key t) | exact BCells.drew ((bcells_new _ (wo.heap.size + 1) (by first | rfl | (simp; done)) f key key t).alloc _) | exact bcells_new _ (wo.heap.size + 1) (by first | rfl | (simp; done)) f key key t | exact (bcells_new _ (wo.heap.size + 1) (by first | rfl | (simp; done)) f key key t).alloc _) (by first | (simp; done) | (simp; omega)) hgrow (ownne (by omega))); (have ho59 : OwnV w59 wo.heap.size v59 k (l.take k) := (by rw [Nat.zero_add, List.nil_append] at hown; exact hown)); clear hown hgrow) | ((refine step_append_any _ (by rfl) (.tmp 59) (.tmp 62) 35 (by rfl) wo.heap.size 23 i0 (.agg #[.string ⟨#[]⟩, .string ⟨#[]⟩]) 2 32 Try.underlying35 hi hz0 hz1 hz2 rfl (by decide) v59 k (flat (l.take k)) (by rfl) ?_ (some ⟨wo.heap.size, 0, none⟩) 2 2 (flat [(f, key), (key, t)]) (by rfl) (fun h => (nomatch h)) rfl ?_ (flat_one _) (by unfold maxLen; omega) (by omega) ?_ ?_); (first | exact ho59 | exact ho59.alloc _ | exact owns_drew ho59 | exact owns_drew (ho59.alloc _)); (first | exact nb1 | exact BCells.drew (nb1)); (focus first | omega | (simp; done) | (simp; omega)); intro v63 w63 hown hgrow; (have hbw63 : Below wo.heap.size wo w63 := (by go_must (refine below_grown (by repeat (first | with_reducible exact Below.refl _ _ | with_reducible assumption | with_reducible refine Below.drew ?_ | with_reducible refine below_drawn ?_ | with_reducible refine Below.alloc ?_ (by first | omega | (simp; done) | (simp; omega) | (simp at *; omega)) _ | with_reducible refine Below.setCell ?_ (by first | omega | (simp; done) | (simp; omega) | (simp at *; omega)) _ | with_reducible refine Below.trans ?_ (Below.mono (by assumption) (by first | omega | (simp; done) | (simp; omega) | (simp at *; omega))))) (by first | (simp; omega) | omega) hgrow (fun k hk => own_block ho59 hk)))); (have ho63 : OwnV w63 wo.heap.size v63 (k + 2) (l.take k ++ [(f, key), (key, t)]) := (by go_must ((rw [← flat_app] at hown); exact hown))); clear hown hgrow) | ((refine step_append_any _ (by rfl) (.tmp 59) (.tmp 62) 35 (by rfl) wo.heap.size 23 i0 (.agg #[.string ⟨#[]⟩, .string ⟨#[]⟩]) 2 32 Try.underlying35 hi hz0 hz1 hz2 rfl (by decide) v59 k (flat (l.take k)) (by rfl) ?_ (some ⟨wo.heap.size + 1, 0, none⟩) 2 2 (flat [(f, key), (key, t)]) (by rfl) (fun h => (nomatch h)) rfl ?_ (flat_one _) (by unfold maxLen; omega) (by omega) ?_ ?_); (first | exact ho59 | exact ho59.alloc _ | exact owns_drew ho59 | exact owns_drew (ho59.alloc _)); (first | exact nb2 | exact BCells.drew (nb2)); (focus first | omega | (simp; done) | (simp; omega)); intro v63 w63 hown hgrow; (have hbw63 : Below wo.heap.size wo w63 := (by go_must (refine below_grown (by repeat (first | with_reducible exact Below.refl _ _ | with_reducible assumption | with_reducible refine Below.drew ?_ | with_reducible refine below_drawn ?_ | with_reducible refine Below.alloc ?_ (by first | omega | (simp; done) | (simp; omega) | (simp at *; omega)) _ | with_reducible refine Below.setCell ?_ (by first | omega | (simp; done) | (simp; omega) | (simp at *; omega)) _ | with_reducible refine Below.trans ?_ (Below.mono (by assumption) (by first | omega | (simp; done) | (simp; omega) | (simp at *; omega))))) (by first | (simp; omega) | omega) hgrow (fun k hk => own_block ho59 hk)))); (have ho63 : OwnV w63 wo.heap.size v63 (k + 2) (l.take k ++ [(f, key), (key, t)]) := (by go_must ((rw [← flat_app] at hown); exact hown))); clear hown hgrow) | ((refine step_append_any _ (by rfl) (.tmp 59) (.tmp 62) 35 (by rfl) wo.heap.size 23 i0 (.agg #[.string ⟨#[]⟩, .string ⟨#[]⟩]) 2 32 Try.underlying35 hi hz0 hz1 hz2 rfl (by decide) v59 k (flat (l.take k)) (by rfl) ?_ (some ⟨w59.heap.size, 0, none⟩) 2 2 (flat [(f, key), (key, t)]) (by rfl) (fun h => (nomatch h)) rfl ?_ (flat_one _) (by unfold maxLen; omega) (by omega) ?_ ?_); (first | exact ho59 | exact ho59.alloc _ | exact owns_drew ho59 | exact owns_drew (ho59.alloc _)); (first | exact bcells_new _ _ rfl f key key t | exact BCells.drew (bcells_new _ _ rfl f key key t)); (focus first | omega | (simp; done) | (simp; omega)); intro v63 w63 hown hgrow; (have hbw63 : Below wo.heap.size wo w63 := (by go_must (refine below_grown (by repeat (first | with_reducible exact Below.refl _ _ | with_reducible assumption | with_reducible refine Below.drew ?_ | with_reducible refine below_drawn ?_ | with_reducible refine Below.alloc ?_ (by first | omega | (simp; done) | (simp; omega) | (simp at *; omega)) _ | with_reducible refine Below.setCell ?_ (by first | omega | (simp; done) | (simp; omega) | (simp at *; omega)) _ | with_reducible refine Below.trans ?_ (Below.mono (by assumption) (by first | omega | (simp; done) | (simp; omega) | (simp at *; omega))))) (by first | (simp; omega) | omega) hgrow (fun k hk => own_block ho59 hk)))); (have ho63 : OwnV w63 wo.heap.size v63 (k + 2) (l.take k ++ [(f, key), (key, t)]) := (by go_must ((rw [← flat_app] at hown); exact hown))); clear hown hgrow) | fail)
                all_goals (go_wp2_with fail; go_meet; exact ⟨ho63, Lib.hid hbw63⟩)
              case rest =>
                obtain ⟨hown, Hb2⟩ := hcut
                obtain ⟨g2, cap2, hv, hO⟩ := ownv_shape hown (by omega)
                subst hv
                have HO := Lib.hid hO
                have Hown0 := Lib.hid (Hownx.out.grow Hb2.out)
                have hsz2 := Hb2.out.size
                obtain ⟨l', hl'⟩ : ∃ l', l' = l.take k ++ [(f, key), (key, t)] ++ l.drop (k + 1) := ⟨_, rfl⟩
                have hlen' : l'.length = l.length + 1 := by rw [hl']; exact cut_length hkl _ _
                have hch' : Chain [] l' := by
                  rw [hl', Hft.out.1, Hft.out.2]
                  exact chain_cut Hch.out hkl (by rw [← Hft.out.1, ← Hft.out.2]; exact Hok.out)
                have Hl' := Lib.hid (⟨hl', hlen'⟩ : _ ∧ _)
                have Hch' := Lib.hid hch'
                have hdl : (flat (l.drop (k + 1))).length = (l.length - (k + 1)) * 2 := by rw [flat_length, List.length_drop]
                have Hdl := Lib.hid hdl
                have hwr : wr.heap.size ≤ wo.heap.size := by omega
                have HbW := Lib.hid (Hb.out.trans ((Hbk.out.trans (Hbx.out.mono (by omega))).mono hsW))
                clear hown hO hl' hlen' hch' hdl Hown Hownk Hownx Hch
                by_cases hcc : cap = k + 1
                all_goals
                  go_wp2_with (at_builtin; go_must (refine wpList_append_any _ rfl (.tmp 64) (.tmp 68) 35 rfl wo.heap.size 23 i0 (.agg #[.string ⟨#[]⟩, .string ⟨#[]⟩]) 2 32 Try.underlying35 hi hz0 hz1 hz2 rfl (by decide) _ (k + 2) (flat (l.take k ++ [(f, key), (key, t)])) rfl HO.out (some _) (l.length - (k + 1)) _ (flat (l.drop (k + 1))) rfl (fun h => (nomatch h)) Hdl.out (drop_cells Hown0.out (Below.refl _ _) (k + 1) _ (fun h => by first | rfl | (exfalso; omega))) (flat_one _) (by unfold maxLen; omega) (by omega) hsz2 ?_))
                  intro v' w' hown' hgrow'
                  have hbw' : Below wo.heap.size wo w' := below_grown Hb2.out hsz2 hgrow' (fun q hq => own_block HO.out hq)
                  rw [← flat_app, ← Hl'.out.1, show k + 2 + (l.length - (k + 1)) = l'.length from by rw [Hl'.out.2]; omega] at hown'
                  obtain ⟨g3, cap3, hv3, hO3⟩ := ownv_shape hown' (by rw [Hl'.out.2]; omega)
                  have f3 := OwnS.facts hO3
                  have h3l := Hl'.out.2
                  have HO3 := Lib.hid (owns_weak hO3 (show W.heap.size ≤ wo.heap.size by omega))
                  have Hbw' := Lib.hid (HbW.out.trans (hbw'.mono (by omega)))
                  rw [hv3]
                  obtain ⟨n', hn'⟩ : ∃ n', n' = l'.length := ⟨_, rfl⟩
                  rw [← hn'] at f3 h3l ⊢
                  have Hn' := Lib.hid hn'
                  have h3i : n' ≤ i + 1 + 1 := by omega
                  have h3p : 1 ≤ n' := by omega
                  clear hown' hgrow' hbw' hv3 hO3 hn' h3l
                  go_wp2_with fail
                  go_roundw
                  case rel => exact ⟨i + 1, l', g3, cap3, by go_num, by rw [← Hn'.out], by omega, by rw [← Hn'.out]; omega, by rw [← Hn'.out]; omega, by rw [← Hn'.out]; omega, by omega, by omega, by omega, HO3, Hch', Hbw'⟩
                  case measure => simp [intOf]; omega
        · have hkl' : ¬ (k : Int) < l.length := by omega
          have Hown' := Lib.hid (Hown.out.grow Hbk.out)
          go_wp2_with fail
          go_roundw
          case rel => exact ⟨i + 1, l, g, cap, by go_num, rfl, by omega, hl1, by omega, hcap, hcm, hgW, by omega, Hown', Hch, Lib.hid (Hb.out.trans (Hbk.out.mono hsW))⟩
          case measure => simp [intOf]; omega
    · have hs := Hb.out.size
      have hkA : i = at_.length := by omega
      obtain ⟨wo, rfl⟩ : ∃ wo : World, wo = wr := ⟨_, rfl⟩
      have hone : cnt x l = 1 := chain_one Hch.out (by omega) (by omega)
      have hall : sAll l = true := chain_all Hch.out
      have hAll := span_all_some g 0 cap l
      rw [hall] at hAll
      have HAll := Lib.hid hAll
      have Hone := Lib.hid hone
      clear hone hall hAll hkA
      go_wp2_with fail
      go_loopw [12, 13] (fun s12 s13 wn => ∃ k : Nat, s13 = .int .i64 k ∧ s12 = .int .i64 (cnt x (l.take k) : Nat) ∧ k ≤ l.length ∧ Hid (Below wo.heap.size wo wn)) (fun _ s13 _ => l.length - (intOf s13).toNat)
      case atStart => exact ⟨0, rfl, rfl, by omega, Below.refl _ _⟩
      case round =>
        obtain ⟨k, rfl, rfl, hk, Hbn⟩ := hrel
        have hcle := cnt_le x (l.take k)
        have htl : (l.take k).length ≤ k := List.length_take_le _ _
        by_cases hkl : k < l.length
        · have hrow := (Hown.out.grow Hbn.out).row k hkl
          have hcn := cnt_next x l k hkl
          obtain ⟨f, hf⟩ : ∃ f, f = l[k].1 := ⟨_, rfl⟩
          obtain ⟨t, ht⟩ : ∃ t, t = l[k].2 := ⟨_, rfl⟩
          rw [← hf, ← ht, Nat.zero_add] at hrow
          rw [← hf, ← ht] at hcn
          obtain ⟨c, hc⟩ : ∃ c, c = cnt x (l.take k) := ⟨_, rfl⟩
          rw [← hc] at hcn hcle ⊢
          obtain ⟨hc1, hc2⟩ := hrow
          have Hcn := Lib.hid hcn
          have hsn := Hbn.out.size
          have hin := span_in f t x
          clear hf ht hcn hc
          cases hb : inB f t x
          all_goals
            rw [hb] at hin
            have Hib := Lib.hid hb
            have Hin := Lib.hid hin
            clear hb hin
            go_wp2_with fail
            refine (Hin.out _).mono ?_
            rintro e w1 ⟨rfl, hb1⟩
            have Hb1 := Lib.hid (Hbn.out.trans (hb1.mono hsn))
            clear hb1
            go_wp2_with fail
            go_roundw
            case rel => exact ⟨k + 1, by go_num, by rw [Hcn.out, Hib.out]; first | rfl | go_num, by omega, Hb1⟩
            case measure => simp [intOf]; omega
        · have hck : l.take k = l := List.take_of_length_le (by omega)
          rw [hck, Hone.out]
          have hsn := Hbn.out.size
          have Hr := Lib.hid (Hown.out.grow Hbn.out).row
          clear hck
          go_wp2_with fail
          refine (HAll.out _ (by omega) Hr.out (by omega) (by omega)).mono ?_
          rintro e w1 ⟨rfl, hb1⟩
          have Hb1 := Lib.hid (Hbn.out.trans (hb1.mono hsn))
          have hs1 := Hb1.out.size
          clear hb1
          go_wp2_with fail
          refine (known_any _).mono ?_
          rintro e w2 ⟨rfl, hb2⟩
          have Hb2 := Lib.hid (Hb.out.trans ((Hb1.out.trans (hb2.mono hs1)).mono hs))
          clear hb2
          go_wp2_with fail
          go_ret
          exact ⟨rfl, Hb2.out⟩

open Go.ChangeShapes Go.WideShapes Go.Deep in
theorem open_strs {H : Type} {enc : TypeId × Value → H} {W : World} {v : Value} {d : DataW H} {p : List MemPlace} (hv : ∃ ao n c, v = .slice ao n c) (h : DataW.Trod enc Try.prog W 0 (fun _ => true) true 37 v d p) :
    ∃ ao cap, ∃ l : List ByteArray, v = .slice ao l.length cap ∧ l.length ≤ 9223372036854775807 ∧ (0 < l.length → ∃ b off, ao = some ⟨b, off, none⟩ ∧ b < W.heap.size ∧ ∀ i, (hi : i < l.length) → W.cell? ⟨b, off + i, none⟩ = some (.string l[i])) := by
  obtain ⟨ao, n, c, rfl⟩ := hv
  obtain ⟨fuel, hf⟩ := h
  rcases open_strings Try.underlying37 Try.underlying9 (by kernel_rfl : Try.prog.cellsOf 9 = 1) hf with ⟨hcs, -⟩ | ⟨a, len, cap, ss, hcs, -, hl, hm, hz, -, hc, -⟩
  · simp [Value.cells] at hcs
    obtain ⟨rfl, rfl, rfl⟩ := hcs
    exact ⟨none, 0, [], rfl, by simp, fun h => absurd h (by simp)⟩
  · simp [Value.cells] at hcs
    obtain ⟨rfl, rfl, rfl⟩ := hcs
    simp only [if_true] at hz
    have hlen : (ss.take n).length = n := by simp; omega
    unfold maxLen at hm
    refine ⟨some a, _, ss.take n, by rw [hlen], by omega, fun hp => ?_⟩
    rw [hlen] at hp
    obtain ⟨ab, ao, spot⟩ := a
    have hspot : spot = none := by simpa [Addr.add] using World.cell?_spot (hc 0 (by omega))
    subst hspot
    have h0 := hc 0 (by omega)
    refine ⟨ab, ao, rfl, ?_, fun i hi => ?_⟩
    · rw [add_none] at h0
      exact lt_of_cellX h0
    · rw [hlen] at hi
      have hci := hc i (by omega)
      rw [add_none] at hci
      rw [hci]
      simp [List.getD, List.getElem?_eq_getElem (show i < ss.length by omega)]
namespace SpanPartsLift
open Go.ChangeShapes Go.WideShapes Go.ChangeAt Go.RowKit Go.Joins Go.Deep
open Go.ChangeMaps (open_string shut_string)

theorem own : ownKnob Try.prog.godebug = none := by kernel_rfl
theorem laidOut : laidOutB Try.prog = true := by kernel_rfl

set_option maxHeartbeats 1000000 in
set_option maxRecDepth 100000 in
theorem lifted (os : Os) (started : os.Started) (H : Type) (enc : TypeId × Value → H) :
    ReturnsInHanded {} Try.checked os 8 .any (Rows.spanPartsSpec.pre6 enc Try.prog Try.f8 Rows.spanPartsRow.domain false) (Rows.spanPartsSpec.post enc Try.prog Try.f8 false true false false) := by
  refine returnsInHanded_of_change (C := Try.checked) own started (by kernel_rfl) Try.func8
    (ChangeSpec.witness6 (enc := enc) (C := Try.checked) false ⟨#[], #[.slice none 0 0, .string ⟨#[]⟩], []⟩ 8 (by kernel_rfl) (by kernel_rfl) (by kernel_rfl) (by kernel_rfl)) ?_
  intro W base args ds gs before hval0 hW hcnd _
  have hval : ∀ (j : Nat) t v, Try.f8.params[j]? = some t → args[j]? = some v → Value.okWide Try.prog W .any base t v := hval0
  have hW' := hW
  obtain ⟨p, q, hA0, hV, rfl, hfz, hnd⟩ := hW
  have hA : DataW.TrodAll enc Try.prog W 0 (fun _ => true) true Try.f8.params.toList args.toList ds p := hA0
  rw [Try.params8] at hA hval
  obtain ⟨v0, vs0, d0, ds0, p0, q0, hargs, rfl, rfl, h0, r0⟩ := trodAll_cons hA
  obtain ⟨v1, vs1, d1, ds1, p1, q1, rfl, rfl, rfl, h1, r1⟩ := trodAll_cons r0
  obtain ⟨rfl, rfl, rfl⟩ := trodAll_nil r1
  obtain rfl : args = #[v0, v1] := by cases args; simp_all
  obtain ⟨rfl, rfl⟩ := trodVars_none hV
  have k0 := h0
  have lt0 : ∀ x ∈ p0, x.block < W.heap.size := by obtain ⟨m, hm⟩ := k0; exact DataW.trod_lt m _ _ _ hm
  have k1 := h1
  have lt1 : ∀ x ∈ p1, x.block < W.heap.size := by obtain ⟨m, hm⟩ := k1; exact DataW.trod_lt m _ _ _ hm
  have post : ∀ e W', e = Ending.returned (.bool true) → Below W.heap.size W W' → ∃ v, e = .returned v ∧ Rows.spanPartsSpec.post enc Try.prog Try.f8 false true false false W #[v0, v1] v W' := by
    intro e W' he bel
    subst he
    exact ⟨_, rfl, _, _, _, [], _, [], hW', trodAll_mk1 (shut_bool Try.underlying4 _), (trodAll_cons_mk (Below.trod laidOut (by kernel_rfl) (of_decide_eq_true (by kernel_rfl)) k0 bel lt0) (trodAll_cons_mk (Below.trod laidOut (by kernel_rfl) (of_decide_eq_true (by kernel_rfl)) k1 bel lt1) trodAll_mk0)), rfl, bel.frame _, fun h => by cases h⟩
  clear hW' hcnd hfz hnd hA0 hA hval0
  obtain ⟨ao, cap, l, rfl, hm, hr⟩ := open_strs (okWide_slice Try.underlying37 (hval 0 37 v0 rfl rfl)) h0
  obtain ⟨x, rfl, -, -, -⟩ := open_string Try.underlying9 (hval 1 9 v1 rfl rfl) h1
  exact (parts_walk ao cap l x W hm hr).mono fun e W' ⟨he, bel⟩ => post e W' he bel

theorem over : Rows.spanPartsRow.holds Try.pinned (OpenSpec.ofChange Rows.spanPartsSpec) :=
  OpenClaim.holds_of_wide 8 Try.f8 rfl rfl rfl rfl rfl rfl rfl ⟨rfl, rfl, rfl, rfl, rfl⟩ rfl rfl rfl rfl rfl (by kernel_rfl) Try.func8 (by kernel_rfl)
    (of_decide_eq_true (by kernel_rfl)) (by unfold Func.isWrapper; first | (rw [if_pos (by decide +kernel)]; kernel_rfl) | (rw [if_neg (by decide +kernel)]; exact ⟨rfl, rfl⟩))
    (fun os started H enc _ => lifted os started H enc)
end SpanPartsLift

/-- The statement. -/
theorem spanParts_holds : Rows.SpanPartsSaid := SpanPartsLift.over
#print axioms spanParts_holds
end Go.Proofs.Ytkggjcfjehbbnaa
