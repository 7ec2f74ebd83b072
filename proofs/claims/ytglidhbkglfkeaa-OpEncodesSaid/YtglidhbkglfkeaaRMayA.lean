/- The contract of the document's May, at all requests. -/
import Derived.Test.YtglidhbkglfkeaaRMa1
import Derived.Test.YtglidhbkglfkeaaRMa2
import Derived.Test.YtglidhbkglfkeaaRMa3
import Derived.Test.YtglidhbkglfkeaaRMa4
import Derived.Test.YtglidhbkglfkeaaRMa5
import Derived.Test.YtglidhbkglfkeaaRMa6
import Derived.Test.YtglidhbkglfkeaaRMa7
namespace Go.Proofs.Ytglidhbkglfkeaa
open Go.RowKit

theorem rmay_any (o : Rq) (w : World) (r : Bool) (hr : mayO o = r) :
    Calls Try.prog 10 #[.agg #[.int .i64 o.kind, .int .i64 o.client, .int .i64 o.seq, .string o.key, .string o.who, .string o.tkey, .string o.twho, .int .i64 o.item, .int .i64 o.count, .int .i64 o.price, .bool o.buy, .int .i64 o.id]] w fun e w' => e = .returned (.bool r) ∧ Below w.heap.size w w' := by
  cases hq : (decide (1 ≤ o.client ∧ o.client ≤ 1048576 ∧ 1 ≤ o.seq ∧ o.seq ≤ 1099511627776) && placeB o.key o.who) with
  | false =>
    have : r = false := by rw [← hr]; unfold mayO; rw [hq, Bool.false_and]
    subst this
    exact rmay_no o w hq
  | true =>
    have hq2 := hq
    simp only [Bool.and_eq_true, decide_eq_true_eq] at hq2
    obtain ⟨⟨c1, c2, c3, c4⟩, hp⟩ := hq2
    by_cases hk : o.kind < 1 ∨ 7 < o.kind
    · have : r = false := by
        rw [← hr]; unfold mayO
        have : kindO o = false := by
          unfold kindO
          rw [if_neg (by omega), if_neg (by omega), if_neg (by omega), if_neg (by omega), if_neg (by omega)]
        rw [this, Bool.and_false]
      subst this
      exact rmay_out o w c1 c2 c3 c4 hp hk
    · obtain ⟨kind, client, seq, key, who, tkey, twho, item, count, price, buy, id⟩ := o
      simp only at *
      have h2 : kind = 1 ∨ kind = 2 ∨ kind = 3 ∨ kind = 4 ∨ kind = 5 ∨ kind = 6 ∨ kind = 7 := by omega
      rcases h2 with rfl | rfl | rfl | rfl | rfl | rfl | rfl
      · exact rmay_1 ⟨1, client, seq, key, who, tkey, twho, item, count, price, buy, id⟩ w r c1 c2 c3 c4 hp hr
      · exact rmay_2 ⟨2, client, seq, key, who, tkey, twho, item, count, price, buy, id⟩ w r c1 c2 c3 c4 hp hr
      · exact rmay_3 ⟨3, client, seq, key, who, tkey, twho, item, count, price, buy, id⟩ w r c1 c2 c3 c4 hp hr
      · exact rmay_4 ⟨4, client, seq, key, who, tkey, twho, item, count, price, buy, id⟩ w r c1 c2 c3 c4 hp hr
      · exact rmay_5 ⟨5, client, seq, key, who, tkey, twho, item, count, price, buy, id⟩ w r c1 c2 c3 c4 hp hr
      · exact rmay_6 ⟨6, client, seq, key, who, tkey, twho, item, count, price, buy, id⟩ w r c1 c2 c3 c4 hp hr
      · exact rmay_7 ⟨7, client, seq, key, who, tkey, twho, item, count, price, buy, id⟩ w r c1 c2 c3 c4 hp hr
end Go.Proofs.Ytglidhbkglfkeaa
