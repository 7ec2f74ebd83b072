/- Texts put together: WGn, GtN. -/
import Derived.Test.YtogamdaomdoapaaZa07
import Derived.Test.YtogamdaomdoapaaZa09
import Derived.Test.YtogamdaomdoapaaZa15
import Derived.Test.YtogamdaomdoapaaZa37
import Derived.Test.YtogamdaomdoapaaZa38
import Derived.Laws.CopyOwn
namespace Go.Proofs.Ytogamdaomdoapaa
set_option maxRecDepth 20000
open Go.RowKit
theorem sl_nil (w:World):F.Sl w none 0 []:=⟨Nat.le_refl _,by decide,fun _=>⟨rfl,rfl⟩,fun h=>absurd h (by simp)⟩
end Go.Proofs.Ytogamdaomdoapaa
namespace Go.Proofs.Ytogamdaomdoapaa.G
set_option maxRecDepth 20000
open Go.RowKit
def gtV (g:Gt) (av:Value):Array Value:=#[.int .i64 g.id,.int .i64 g.hosts,.int .i64 g.next,.int .i64 g.host,.int .i64 g.wait,.bool g.pend,.int .i64 g.op.kind,.int .i64 g.op.client,.int .i64 g.op.seq,.string g.op.key,.string g.op.who,.string g.op.tkey,.string g.op.twho,.int .i64 g.op.item,.int .i64 g.op.count,.int .i64 g.op.price,.bool g.op.buy,.int .i64 g.op.id,av]
structure GBox (w:World) (n:Nat) (g:Gt) (av:Value):Prop where
 c0:w.cell? ⟨n,0,none⟩=some (.int .i64 g.id)
 c1:w.cell? ⟨n,1,none⟩=some (.int .i64 g.hosts)
 c2:w.cell? ⟨n,2,none⟩=some (.int .i64 g.next)
 c3:w.cell? ⟨n,3,none⟩=some (.int .i64 g.host)
 c4:w.cell? ⟨n,4,none⟩=some (.int .i64 g.wait)
 c5:w.cell? ⟨n,5,none⟩=some (.bool g.pend)
 c6:w.cell? ⟨n,6,none⟩=some (.int .i64 g.op.kind)
 c7:w.cell? ⟨n,7,none⟩=some (.int .i64 g.op.client)
 c8:w.cell? ⟨n,8,none⟩=some (.int .i64 g.op.seq)
 c9:w.cell? ⟨n,9,none⟩=some (.string g.op.key)
 c10:w.cell? ⟨n,10,none⟩=some (.string g.op.who)
 c11:w.cell? ⟨n,11,none⟩=some (.string g.op.tkey)
 c12:w.cell? ⟨n,12,none⟩=some (.string g.op.twho)
 c13:w.cell? ⟨n,13,none⟩=some (.int .i64 g.op.item)
 c14:w.cell? ⟨n,14,none⟩=some (.int .i64 g.op.count)
 c15:w.cell? ⟨n,15,none⟩=some (.int .i64 g.op.price)
 c16:w.cell? ⟨n,16,none⟩=some (.bool g.op.buy)
 c17:w.cell? ⟨n,17,none⟩=some (.int .i64 g.op.id)
 c18:w.cell? ⟨n,18,none⟩=some (av)
theorem gbox {w:World} {n:Nat} {g:Gt} {av:Value} {t:TypeId} {fr:Nat × Nat} (h:w.heap[n]?=some (.cells (gtV g av) t fr)):GBox w n g av:=by
 have hc:∀ k,w.cell? ⟨n,k,none⟩=(gtV g av)[k]?:=fun k=>cell_of_row w n k _ _ _ h
 exact ⟨hc 0,hc 1,hc 2,hc 3,hc 4,hc 5,hc 6,hc 7,hc 8,hc 9,hc 10,hc 11,hc 12,hc 13,hc 14,hc 15,hc 16,hc 17,hc 18⟩
abbrev thG (p:Nat) (g:Gt) (av:Value):Th:=thObj p (.cells (gtV g av) 49 (0,0))
def NewPost (w:World) (id hosts:Int) (e:Ending) (w':World):Prop :=
 if newOk id hosts=true then e=.returned (.tuple #[.pointer (some ⟨w.heap.size,0,none⟩),.int .i64 0])∧w'=w.alloc (.cells (gtV (newG id hosts) (.slice none 0 0)) 49) else e=.returned (.tuple #[.pointer none,.int .i64 1])∧w'=w
set_option maxHeartbeats 1000000 in
theorem new_any (id hosts:Int) (w:World):Calls Try.prog 6 #[.int .i64 id,.int .i64 hosts] w (NewPost w id hosts):=by
 obtain ⟨r,hr⟩:∃ r,r=newOk id hosts:=⟨_,rfl⟩
 have HR:Hid (r=(!decide (id<32)&&!decide (36≤id)&&!decide (hosts<1)&&!decide (6<hosts))):=by
  rw [hr];unfold newOk;refine Lib.hid ?_;rw [Bool.eq_iff_iff];simp;omega
 unfold NewPost
 rw [←hr]
 clear hr
 rcases Bool.eq_false_or_eq_true (decide (id<32)) with t1 | t1
 ·have h0:r=false:=by rw [HR.out,t1];rfl
  subst h0
  go_enter Try.func6,Try.ntmps6
  go_wp2_with fail
  go_ret2
  exact ⟨rfl,rfl⟩
 rcases Bool.eq_false_or_eq_true (decide (36≤id)) with t2 | t2
 ·have h0:r=false:=by rw [HR.out,t1,t2];rfl
  subst h0
  go_enter Try.func6,Try.ntmps6
  go_wp2_with fail
  go_ret2
  exact ⟨rfl,rfl⟩
 rcases Bool.eq_false_or_eq_true (decide (hosts<1)) with t3 | t3
 ·have h0:r=false:=by rw [HR.out,t1,t2,t3];rfl
  subst h0
  go_enter Try.func6,Try.ntmps6
  go_wp2_with fail
  go_ret2
  exact ⟨rfl,rfl⟩
 rcases Bool.eq_false_or_eq_true (decide (6<hosts)) with t4 | t4
 ·have h0:r=false:=by rw [HR.out,t1,t2,t3,t4];rfl
  subst h0
  go_enter Try.func6,Try.ntmps6
  go_wp2_with fail
  go_ret2
  exact ⟨rfl,rfl⟩
 have h0:r=true:=by rw [HR.out,t1,t2,t3,t4];rfl
 subst h0
 go_enter Try.func6,Try.ntmps6
 go_wp2_with fail
 go_ret2
 exact ⟨rfl,rfl⟩
theorem isHost_g {W w:World} {L:List Th} {p:Nat} {g:Gt} {av:Value} (S:St W w (thG p g av::L)) (n:Int) (h:1≤g.hosts∧g.hosts≤6):Calls Try.prog 16 #[.pointer (some ⟨p,0,none⟩),.int .i64 n] w fun e w'=>e=.returned (.bool (isHostB g.hosts n))∧w'=w:=by
 obtain ⟨c0,c1,c2,c3,c4,c5,c6,c7,c8,c9,c10,c11,c12,c13,c14,c15,c16,c17,c18⟩:=gbox (show w.heap[p]?=some (.cells (gtV g av) 49 (0,0)) from S.head)
 have hp:=(S.cellsN 0 rfl).1
 obtain ⟨k,hk⟩:∃ k,k=g.hosts:=⟨_,rfl⟩
 rw [←hk] at c1 h ⊢
 unfold isHostB
 clear c0 c2 c3 c4 c5 c6 c7 c8 c9 c10 c11 c12 c13 c14 c15 c16 c17 c18 S hk
 rcases Bool.eq_false_or_eq_true (decide ((8:Int)≤n)) with t1 | t1
 ·rw [t1,Bool.true_and]
  go_enter Try.func16,Try.ntmps16
  go_wp2_with fail
  go_ret
  exact ⟨rfl,rfl⟩
 ·rw [t1,Bool.false_and]
  go_enter Try.func16,Try.ntmps16
  go_wp2_with fail
  go_ret
  exact ⟨rfl,rfl⟩
def lookO:Rq:=⟨5,0,0,⟨#[97]⟩,⟨#[98]⟩,e0,e0,0,0,0,false,0⟩
theorem look_any (w:World):Calls Try.prog 8 #[] w fun e w'=>e=.returned (.agg #[.int .i64 lookO.kind,.int .i64 lookO.client,.int .i64 lookO.seq,.string lookO.key,.string lookO.who,.string lookO.tkey,.string lookO.twho,.int .i64 lookO.item,.int .i64 lookO.count,.int .i64 lookO.price,.bool lookO.buy,.int .i64 lookO.id])∧Below w.heap.size w w':=by
 go_enter Try.func8,Try.ntmps8
 go_wp2_with fail
 refine bodyPost_ret (v:=.agg #[.int .i64 lookO.kind,.int .i64 lookO.client,.int .i64 lookO.seq,.string lookO.key,.string lookO.who,.string lookO.tkey,.string lookO.twho,.int .i64 lookO.item,.int .i64 lookO.count,.int .i64 lookO.price,.bool lookO.buy,.int .i64 lookO.id]) (by simp only [results,Try.results8];go_simp;exact ⟨rfl,rfl,rfl,rfl,rfl,rfl,rfl,rfl,rfl,rfl,rfl,rfl⟩) rfl ⟨rfl,bg⟩
end Go.Proofs.Ytogamdaomdoapaa.G