/- Texts put together: GtP, GtRp. -/
import Derived.Test.YtogamdaomdoapaaChecked
import Derived.Test.YtogamdaomdoapaaZa01
import Derived.Test.YtogamdaomdoapaaZa02
import Derived.Test.YtogamdaomdoapaaZa03
import Derived.Test.YtogamdaomdoapaaZa04
import Derived.Test.YtogamdaomdoapaaZa05
import Derived.Test.YtogamdaomdoapaaZa06
import Derived.Test.YtogamdaomdoapaaZa07
import Derived.Test.YtogamdaomdoapaaZa08
import Derived.Test.YtogamdaomdoapaaZa09
import Derived.Test.YtogamdaomdoapaaZa10
import Derived.Test.YtogamdaomdoapaaZa11
import Derived.Test.YtogamdaomdoapaaZa12
import Derived.Test.YtogamdaomdoapaaZa13
import Derived.Test.YtogamdaomdoapaaZa14
import Derived.Test.YtogamdaomdoapaaZa15
import Derived.Test.YtogamdaomdoapaaZa16
import Derived.Test.YtogamdaomdoapaaZa17
import Derived.Test.YtogamdaomdoapaaZa18
import Derived.Test.YtogamdaomdoapaaZa19
import Derived.Test.YtogamdaomdoapaaZa20
import Derived.Test.YtogamdaomdoapaaZa21
import Derived.Test.YtogamdaomdoapaaZa22
import Derived.Test.YtogamdaomdoapaaZa23
import Derived.Test.YtogamdaomdoapaaZa24
import Derived.Test.YtogamdaomdoapaaZa25
import Derived.Test.YtogamdaomdoapaaZa26
import Derived.Test.YtogamdaomdoapaaZa27
import Derived.Test.YtogamdaomdoapaaZa28
import Derived.Test.YtogamdaomdoapaaZa29
import Derived.Test.YtogamdaomdoapaaZa30
import Derived.Test.YtogamdaomdoapaaZa31
import Derived.Test.YtogamdaomdoapaaZa32
import Derived.Test.YtogamdaomdoapaaZa33
import Derived.Test.YtogamdaomdoapaaZa34
import Derived.Test.YtogamdaomdoapaaZa35
import Derived.Test.YtogamdaomdoapaaZa36
import Derived.Test.YtogamdaomdoapaaZa37
import Derived.Test.YtogamdaomdoapaaZa38
import Derived.Test.YtogamdaomdoapaaZa39
import Derived.Test.YtogamdaomdoapaaZa40
import Derived.Test.YtogamdaomdoapaaZa41
namespace Go.Proofs.Ytogamdaomdoapaa.G
open Go.RowKit
theorem next_ok {g:Gt} (h:Ok g):8≤nextH g∧nextH g<8+g.hosts:=by
 have h1:=h.hosts
 have h2:=h.host
 unfold nextH isHostB
 split
 ·next hh =>
  simp only [Bool.and_eq_true,decide_eq_true_eq] at hh
  exact hh
 ·omega
theorem tick_ok {g:Gt} (h:Ok g):Ok (tickG g):=by
 have h1:=h.wait
 unfold tickG
 split
 ·split
  ·exact ⟨h.id,h.hosts,h.next,h.host,⟨by show 0≤g.wait - 1;omega,by show g.wait - 1≤4;omega⟩,h.may⟩
  ·exact ⟨h.id,h.hosts,h.next,next_ok h,⟨(by decide:(0:Int)≤4),(by decide:(4:Int)≤4)⟩,h.may⟩
 ·exact h
end Go.Proofs.Ytogamdaomdoapaa.G
namespace Go.Proofs.Ytogamdaomdoapaa.G
open Go.RowKit
def asked (i:Nat):Nat:=(i+4) / 5
def waitAt (i:Nat):Int:=if i % 5=0 then 0 else ((5 - i % 5:Nat):Int)
def gtAt (hosts:Nat) (o:Rq) (i:Nat):Gt:=⟨32,hosts,2,((8+asked i % hosts:Nat):Int),waitAt i,true,o⟩
theorem next_mod {n h:Nat} (hh:1≤h∧h≤6):(if decide ((8:Int)≤((8+n % h:Nat):Int)+1)&&decide (((8+n % h:Nat):Int)+1<8+(h:Int)) then ((8+n % h:Nat):Int)+1 else 8)=((8+(n+1) % h:Nat):Int):=by
 have h1:n % h<h:=Nat.mod_lt _ (by omega)
 have:h=1∨h=2∨h=3∨h=4∨h=5∨h=6:=by omega
 by_cases hl:n % h+1<h
 ·rw [if_pos (by simp only [Bool.and_eq_true,decide_eq_true_eq];omega)]
  rcases this with rfl | rfl | rfl | rfl | rfl | rfl<;>omega
 ·rw [if_neg (by simp only [Bool.and_eq_true,decide_eq_true_eq];omega)]
  rcases this with rfl | rfl | rfl | rfl | rfl | rfl<;>omega
theorem tick_at {h:Nat} (hh:1≤h∧h≤6) (o:Rq) (i:Nat):tickG (gtAt h o i)=gtAt h o (i+1):=by
 have hn:=next_mod (n:=asked i) hh
 unfold tickG
 rw [if_pos (show (gtAt h o i).pend=true from rfl)]
 have hw:(gtAt h o i).wait=waitAt i:=rfl
 rw [hw]
 by_cases h0:i % 5=0
 ·have e0:waitAt i=0:=by unfold waitAt;rw [if_pos h0]
  have e1:waitAt (i+1)=4:=by unfold waitAt;rw [if_neg (by omega)];omega
  have e2:asked (i+1)=asked i+1:=by unfold asked;omega
  rw [e0,if_neg (by decide)]
  unfold nextH isHostB gtAt
  dsimp only
  rw [hn,e1,e2]
 ·have e0:0<waitAt i:=by unfold waitAt;rw [if_neg h0];omega
  have e1:waitAt (i+1)=waitAt i - 1:=by unfold waitAt;rw [if_neg h0];split<;>omega
  have e2:asked (i+1)=asked i:=by unfold asked;omega
  rw [if_pos e0]
  unfold gtAt
  dsimp only
  rw [e1,e2]
theorem says_at (h:Nat) (o:Rq) (i:Nat):saysB (gtAt h o i)=decide (i % 5=0):=by
 unfold saysB
 show (true&&decide (waitAt i=0))=_
 rw [Bool.true_and]
 unfold waitAt
 by_cases h0:i % 5=0
 ·rw [if_pos h0,decide_eq_true h0];rfl
 ·rw [if_neg h0,decide_eq_false h0,decide_eq_false (by omega)]
theorem asked_end (r:Nat):asked (r * 5)=r:=by unfold asked;omega
theorem asked_step (i:Nat):asked (i+1)=if i % 5=0 then asked i+1 else asked i:=by
 unfold asked
 split<;>omega
end Go.Proofs.Ytogamdaomdoapaa.G
