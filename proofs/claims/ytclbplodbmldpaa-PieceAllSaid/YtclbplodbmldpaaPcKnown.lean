/- The law's 'known'; what nil ones answer. -/
import Derived.Test.YtclbplodbmldpaaPcTake
import Derived.Test.YtclbplodbmldpaaPcRef
import Derived.Test.YtclbplodbmldpaaOpenB
namespace Go.Proofs.Ytclbplodbmldpaa
open Go.RowKit

set_option maxHeartbeats 2000000 in
theorem known_any (w : World) : Calls Try.prog 18 #[] w fun e w' => e = .returned (.bool true) ∧ Below w.heap.size w w' := by
  have kc := const_bytes
  go_enter Try.func18, Try.ntmps18
  go_wp2_with fail
  refine (new_any (some ⟨w.heap.size, 0, none⟩) 3 [97, 98, 99] _ (fun h => (nomatch h)) (bat_lit w _ rfl [97, 98, 99] _ _) (by decide)).mono ?_
  rintro e w1 ⟨p, g, rfl, ho, hb1, hp, hg, hgp⟩
  have hb1' : Below w.heap.size w w1 := ((Below.refl _ _).alloc (Nat.le_refl _) _).trans (hb1.mono (by simp))
  have hs1 := hb1'.size
  simp only [World.alloc, Array.size_push] at hp hg
  have hp1 := ho.lt
  have hg1 := ho.glt (by decide)
  have Ho := Lib.hid ho
  have Hb1 := Lib.hid hb1'
  clear ho hb1 hb1'
  go_wp2_with fail
  refine (begin_yes 3 _ (by omega) (by omega) w.heap.size).mono ?_
  rintro e w2 ⟨rfl, hi, hb2⟩
  have hs2 := hb2.size
  have ho2 := Ho.out.grow hb2
  have Hb2 := Lib.hid (Hb1.out.trans (hb2.mono hs1))
  have Hi := Lib.hid hi
  clear Ho hi hb2
  have Ho := Lib.hid ho2
  clear ho2
  have hpi := Hi.out.lt.1
  go_wp2_with fail
  refine (next_any p g [97, 98, 99] 0 _ Ho.out (by decide) (by decide)).mono ?_
  rintro e w3 ⟨ao, cap, rfl, hq, hb3⟩
  have hs3 := hb3.size
  have hpc : pieceOf [97, 98, 99] 0 = [97, 98, 99] := rfl
  rw [hpc] at hq
  have ho3 := Ho.out.grow hb3
  have hi3 := Hi.out.grow hb3
  have Hb3 := Lib.hid (Hb2.out.trans (hb3.mono (by omega)))
  clear Ho Hi Hb1 Hb2 hb3
  have Hq := Lib.hid hq
  have Ho := Lib.hid ho3
  have Hi := Lib.hid hi3
  clear hq ho3 hi3
  go_wp2_with fail
  refine (inTake_any w1.heap.size w.heap.size [] none 3 0 ao cap [97, 98, 99] _ Hi.out Hq.out.none Hq.out.at (by omega) (by decide) (by omega) (by omega)).mono ?_
  rintro e w4 ⟨rfl, ⟨o', hi4, ho'⟩, hk4⟩
  have hs4 := hk4.size
  have hb4 : Below w.heap.size w w4 := Hb3.out.trans (hk4.below (fun k h => by rcases h with h | h; omega; cases h) (by omega))
  have ho4 := Ho.out.keeps hk4 (fun h => by rcases h with h | h; omega; cases h) (fun _ h => by rcases h with h | h; omega; cases h)
  have htk : takeOf [] 3 0 [97, 98, 99] = [97, 98, 99] := by decide
  rw [htk] at hi4
  clear Ho Hi Hq Hb3 hk4
  have Ho := Lib.hid ho4
  have Hi := Lib.hid hi4
  have Hb4 := Lib.hid hb4
  have Ho' := Lib.hid ho'
  clear ho4 hi4 hb4 ho'
  go_wp2_with fail
  refine (outAck_any p g [97, 98, 99] 0 3 _ Ho.out hgp).mono ?_
  rintro e w5 ⟨rfl, ho5, hk5⟩
  have hs5 := hk5.size
  have hb5 : Below w.heap.size w w5 := Hb4.out.trans (hk5.below (fun k h => by omega) (by omega))
  have hi5 := Hi.out.keeps hk5 (fun h => by omega) (fun z hz h => by
    subst h
    rcases Ho'.out _ hz with h | h
    · cases h
    · omega)
  have hak : ackOf [97, 98, 99] 0 3 = 3 := by decide
  rw [hak] at ho5
  have hao : ackOk [97, 98, 99] 0 3 = true := by decide
  clear Ho Hi Hb4
  have Ho := Lib.hid ho5
  have Hi := Lib.hid hi5
  have Hb5 := Lib.hid hb5
  clear ho5 hi5 hb5 hk5
  go_wp2_with fail
  refine (outWhole_any p g [97, 98, 99] 3 _ Ho.out).mono ?_
  rintro e w6 ⟨rfl, hb6⟩
  have hs6 := hb6.size
  have hi6 := Hi.out.grow hb6
  have hb6' := Hb5.out.trans (hb6.mono (by omega))
  clear Hi Ho Hb5 hb6
  have Hi := Lib.hid hi6
  have Hb6 := Lib.hid hb6'
  clear hi6 hb6'
  go_wp2_with fail
  refine (inWhole_any _ _ [97, 98, 99] o' 3 _ Hi.out).mono ?_
  rintro e w7 ⟨rfl, hb7⟩
  have hb7' := Hb6.out.trans (hb7.mono (by omega))
  go_wp2_with fail
  go_ret
  exact ⟨rfl, hb7'⟩
end Go.Proofs.Ytclbplodbmldpaa
