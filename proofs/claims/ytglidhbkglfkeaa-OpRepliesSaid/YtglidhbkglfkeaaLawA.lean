/- The contracts of heavy and known. -/
import Derived.Test.YtglidhbkglfkeaaEnc
import Derived.Test.YtglidhbkglfkeaaSm
import Derived.Test.YtglidhbkglfkeaaBackOp
namespace Go.Proofs.Ytglidhbkglfkeaa
open Go.RowKit

/-- Is a request more than is looked at? -/
def hvO (o : Rq) : Bool := decide (2000 < o.key.size ∨ 2000 < o.who.size ∨ 2000 < o.tkey.size ∨ 2000 < o.twho.size)
theorem may_light {o : Rq} (h : mayO o = true) : hvO o = false := by
  have := may_sizes h
  unfold hvO
  rw [decide_eq_false_iff_not]
  omega
set_option maxHeartbeats 1000000 in
theorem heavy_any (o : Rq) (w : World) :
    Calls Try.prog 8 #[.agg #[.int .i64 o.kind, .int .i64 o.client, .int .i64 o.seq, .string o.key, .string o.who, .string o.tkey, .string o.twho, .int .i64 o.item, .int .i64 o.count, .int .i64 o.price, .bool o.buy, .int .i64 o.id]] w fun e w' => e = .returned (.bool (hvO o)) ∧ Below w.heap.size w w' := by
  obtain ⟨r, hr⟩ : ∃ r, hvO o = r := ⟨_, rfl⟩
  rw [hr]
  unfold hvO at hr
  by_cases h1 : 2000 < o.key.size
  · obtain rfl : r = true := by rw [← hr]; simp [h1]
    have d1 : decide ((2000 : Int) < o.key.size) = true := by rw [decide_eq_true_eq]; omega
    clear hr
    go_enter Try.func8, Try.ntmps8
    go_wp2_with fail
    go_ret
    exact ⟨rfl, (by repeat (first | with_reducible exact Below.refl _ _ | with_reducible assumption | with_reducible refine Below.drew ?_ | with_reducible refine below_drawn ?_ | with_reducible refine Below.alloc ?_ (by first | omega | (simp; done) | (simp; omega) | (simp at *; omega)) _ | with_reducible refine Below.setCell ?_ (by first | omega | (simp; done) | (simp; omega) | (simp at *; omega)) _ | with_reducible refine Below.trans ?_ (Below.mono (by assumption) (by first | omega | (simp; done) | (simp; omega) | (simp at *; omega)))))⟩
  have d1 : decide ((2000 : Int) < o.key.size) = false := by rw [decide_eq_false_iff_not]; omega
  by_cases h2 : 2000 < o.who.size
  · obtain rfl : r = true := by rw [← hr]; simp [h2]
    have d2 : decide ((2000 : Int) < o.who.size) = true := by rw [decide_eq_true_eq]; omega
    clear hr
    go_enter Try.func8, Try.ntmps8
    go_wp2_with fail
    go_ret
    exact ⟨rfl, (by repeat (first | with_reducible exact Below.refl _ _ | with_reducible assumption | with_reducible refine Below.drew ?_ | with_reducible refine below_drawn ?_ | with_reducible refine Below.alloc ?_ (by first | omega | (simp; done) | (simp; omega) | (simp at *; omega)) _ | with_reducible refine Below.setCell ?_ (by first | omega | (simp; done) | (simp; omega) | (simp at *; omega)) _ | with_reducible refine Below.trans ?_ (Below.mono (by assumption) (by first | omega | (simp; done) | (simp; omega) | (simp at *; omega)))))⟩
  have d2 : decide ((2000 : Int) < o.who.size) = false := by rw [decide_eq_false_iff_not]; omega
  by_cases h3 : 2000 < o.tkey.size
  · obtain rfl : r = true := by rw [← hr]; simp [h3]
    have d3 : decide ((2000 : Int) < o.tkey.size) = true := by rw [decide_eq_true_eq]; omega
    clear hr
    go_enter Try.func8, Try.ntmps8
    go_wp2_with fail
    go_ret
    exact ⟨rfl, (by repeat (first | with_reducible exact Below.refl _ _ | with_reducible assumption | with_reducible refine Below.drew ?_ | with_reducible refine below_drawn ?_ | with_reducible refine Below.alloc ?_ (by first | omega | (simp; done) | (simp; omega) | (simp at *; omega)) _ | with_reducible refine Below.setCell ?_ (by first | omega | (simp; done) | (simp; omega) | (simp at *; omega)) _ | with_reducible refine Below.trans ?_ (Below.mono (by assumption) (by first | omega | (simp; done) | (simp; omega) | (simp at *; omega)))))⟩
  have d3 : decide ((2000 : Int) < o.tkey.size) = false := by rw [decide_eq_false_iff_not]; omega
  by_cases h4 : 2000 < o.twho.size
  · obtain rfl : r = true := by rw [← hr]; simp [h4]
    have d4 : decide ((2000 : Int) < o.twho.size) = true := by rw [decide_eq_true_eq]; omega
    clear hr
    go_enter Try.func8, Try.ntmps8
    go_wp2_with fail
    go_ret
    exact ⟨rfl, (by repeat (first | with_reducible exact Below.refl _ _ | with_reducible assumption | with_reducible refine Below.drew ?_ | with_reducible refine below_drawn ?_ | with_reducible refine Below.alloc ?_ (by first | omega | (simp; done) | (simp; omega) | (simp at *; omega)) _ | with_reducible refine Below.setCell ?_ (by first | omega | (simp; done) | (simp; omega) | (simp at *; omega)) _ | with_reducible refine Below.trans ?_ (Below.mono (by assumption) (by first | omega | (simp; done) | (simp; omega) | (simp at *; omega)))))⟩
  have d4 : decide ((2000 : Int) < o.twho.size) = false := by rw [decide_eq_false_iff_not]; omega
  obtain rfl : r = false := by rw [← hr]; simp [h1, h2, h3, h4]
  clear hr
  go_enter Try.func8, Try.ntmps8
  go_wp2_with fail
  go_ret
  exact ⟨rfl, (by repeat (first | with_reducible exact Below.refl _ _ | with_reducible assumption | with_reducible refine Below.drew ?_ | with_reducible refine below_drawn ?_ | with_reducible refine Below.alloc ?_ (by first | omega | (simp; done) | (simp; omega) | (simp at *; omega)) _ | with_reducible refine Below.setCell ?_ (by first | omega | (simp; done) | (simp; omega) | (simp at *; omega)) _ | with_reducible refine Below.trans ?_ (Below.mono (by assumption) (by first | omega | (simp; done) | (simp; omega) | (simp at *; omega)))))⟩
/-- What Encode hands out. -/
def EncPost (w : World) (o : Rq) (e : Ending) (w' : World) : Prop := if mayO o = true then ∃ ao cap, e = .returned (.tuple #[.slice ao (encO o).length cap, .int .i64 0]) ∧ OwnB w' w.heap.size ao cap (encO o) ∧ Below w.heap.size w w' else e = .returned (.tuple #[.slice none 0 0, .int .i64 1]) ∧ Below w.heap.size w w'
theorem enc_any (o : Rq) (w : World) : Calls Try.prog 9 #[.agg #[.int .i64 o.kind, .int .i64 o.client, .int .i64 o.seq, .string o.key, .string o.who, .string o.tkey, .string o.twho, .int .i64 o.item, .int .i64 o.count, .int .i64 o.price, .bool o.buy, .int .i64 o.id]] w (EncPost w o) := by
  cases hm : mayO o with
  | true =>
    refine Calls.mono ?_ (fun e w' h => (show EncPost w o e w' by unfold EncPost; rw [if_pos hm]; exact h))
    obtain ⟨kind, client, seq, key, who, tkey, twho, item, count, price, buy, id⟩ := o
    cases buy with
    | true => exact enc_true kind client seq key who tkey twho item count price id w hm
    | false => exact enc_false kind client seq key who tkey twho item count price id w hm
  | false =>
    refine Calls.mono (encode_no o w hm) (fun e w' h => ?_)
    unfold EncPost; rw [if_neg (by rw [hm]; simp)]; exact h
theorem enc_yes (o : Rq) (w : World) (hm : mayO o = true) : Calls Try.prog 9 #[.agg #[.int .i64 o.kind, .int .i64 o.client, .int .i64 o.seq, .string o.key, .string o.who, .string o.tkey, .string o.twho, .int .i64 o.item, .int .i64 o.count, .int .i64 o.price, .bool o.buy, .int .i64 o.id]] w fun e w' => ∃ ao cap, e = .returned (.tuple #[.slice ao (encO o).length cap, .int .i64 0]) ∧ OwnB w' w.heap.size ao cap (encO o) ∧ Below w.heap.size w w' := by
  refine (enc_any o w).mono (fun e w' h => ?_)
  unfold EncPost at h
  rwa [if_pos hm] at h
def kO : Rq := ⟨5, 1, 2, ⟨#[97]⟩, ⟨#[98]⟩, ⟨#[]⟩, ⟨#[]⟩, 0, 0, 0, false, 0⟩
theorem kO_may : mayO kO = true := by decide +kernel
theorem kO_enc : encO kO = [5, 1, 2, 1, 97, 1, 98, 0, 0, 0, 0, 0, 0, 0] := by decide +kernel
set_option maxRecDepth 20000 in
set_option maxHeartbeats 1000000 in
theorem known_any (w : World) :
    Calls Try.prog 11 #[] w fun e w' => e = .returned (.bool true) ∧ Below w.heap.size w w' := by
  obtain ⟨x, hx⟩ : ∃ x, x = encO kO := ⟨_, rfl⟩
  have hk := fun w => enc_yes kO w kO_may
  rw [← hx] at hk
  rw [kO_enc] at hx
  have hs : (⟨x.toArray⟩ : ByteArray).toList = [5, 1, 2, 1, 97, 1, 98, 0, 0, 0, 0, 0, 0, 0] := by rw [ByteArray.toList_eq, hx]
  simp only [kO] at hk
  have Hk := Lib.hid hk
  have Hs := Lib.hid hs
  clear hk hx hs
  go_enter Try.func11, Try.ntmps11
  go_wp2_with fail
  refine (Hk.out _).mono ?_
  rintro e w1 ⟨ao, cap, rfl, ho, hb⟩
  have hcv := conv_str ho.at cap
  obtain ⟨s, hs⟩ : ∃ s : ByteArray, s = ⟨x.toArray⟩ := ⟨_, rfl⟩
  rw [← hs] at hcv Hs
  clear ho hs
  go_wp2_with fail
  go_ret
  exact ⟨by rw [Hs.out]; rfl, hb⟩
end Go.Proofs.Ytglidhbkglfkeaa
