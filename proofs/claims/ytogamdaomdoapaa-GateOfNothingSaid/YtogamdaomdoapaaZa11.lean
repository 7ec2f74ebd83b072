/- Texts put together: WdP, WZo, Hold, WBx, WEq. -/
import Derived.Test.YtogamdaomdoapaaZa01
import Derived.Test.YtogamdaomdoapaaZa05
import Derived.Test.YtogamdaomdoapaaZa09
import Derived.Test.YtogamdaomdoapaaZa10
import Derived.Laws.Rows
namespace Go.Proofs.Ytogamdaomdoapaa
open Go.RowKit
structure Wd where
 kind:Int
 zone:Int
 epoch:Int
 index:Int
 size:Int
 off:Int
 host:Int
 err:Int
 sf:ByteArray
 st:ByteArray
 op:Rq
 rep:Rp
 mp:Mp
 ch:Ch
 data:List UInt8
structure Pl where
 zone:Int
 epoch:Int
 index:Int
 size:Int
 off:Int
 host:Int
 err:Int
 sf:ByteArray
 st:ByteArray
 op:Rq
 rep:Rp
 ch:Ch
def rq0:Rq:=⟨0,0,0,e0,e0,e0,e0,0,0,0,false,0⟩
def ch0:Ch:=⟨0,0,0,0,e0⟩
def mp0:Mp:=⟨0,0,[]⟩
def pl0:Pl:=⟨0,0,0,0,0,0,0,e0,e0,rq0,zRp,ch0⟩
def Wd.pl (w:Wd):Pl:=⟨w.zone,w.epoch,w.index,w.size,w.off,w.host,w.err,w.sf,w.st,w.op,w.rep,w.ch⟩
def eqRp (a b:Rp):Bool:=decide (a.err=b.err∧a.id=b.id∧a.i.a=b.i.a∧a.i.b=b.i.b∧a.i.c=b.i.c∧a.i.d=b.i.d)
def eqCh (a b:Ch):Bool:=decide (a.kind=b.kind∧a.zone=b.zone∧a.epoch=b.epoch∧a.tt=b.tt∧a.key.toList=b.key.toList)
def eqPl (a b:Pl):Bool:=decide (a.zone=b.zone∧a.epoch=b.epoch∧a.index=b.index∧a.size=b.size∧a.off=b.off∧a.host=b.host∧a.err=b.err∧a.sf.toList=b.sf.toList∧a.st.toList=b.st.toList)&&eqR a.op b.op&&eqRp a.rep b.rep&&eqCh a.ch b.ch
def numW (n:Int):Bool:=decide (0≤n∧n≤1099511627776)
def zonedW (w:Wd):Bool:=decide (1≤w.zone∧w.zone≤1099511627776∧1≤w.epoch∧w.epoch≤1099511627776)&&numW w.index
def headR (o:Rq):Rq:={ rq0 with kind:=o.kind,client:=o.client,seq:=o.seq }
def ansW (w:Wd):Bool:=eqR w.op (headR w.op)&&decide (1≤w.op.kind∧w.op.kind≤7∧1≤w.op.client∧w.op.client≤1048576∧1≤w.op.seq∧w.op.seq≤1099511627776∧0≤w.err∧w.err≤19)&&numW w.host&&mayR w.rep&&(decide (w.err=0) || eqRp w.rep zRp)
def copyW (w:Wd):Bool:=zonedW w&&decide (1≤w.size∧w.size≤524288∧0≤w.off∧w.off≤w.size∧(w.data.length:Int)≤w.size - w.off∧(w.data.length:Int)≤512)&&isB w.sf w.st
def hasD (k:Int):Bool:=decide (k=1∨k=7∨k=9)
def hasM (k:Int):Bool:=decide (k=3)
def mapsB (m:Mp):Bool:=decide (m.ver≠0∨m.next≠0∨m.zs≠[])
def okW (w:Wd):Bool :=
 if w.kind=1 then true else if w.kind=2 then numW w.index else if w.kind=3 then mayM w.mp else if w.kind=4 then mayC w.ch
 else if w.kind=5 then mayO w.op else if w.kind=6 then ansW w else if w.kind=7 then copyW w else if w.kind=8 then zonedW w&&numW w.off
 else if w.kind=9 then zonedW w else if w.kind=10 then zonedW w else false
def namedW (w:Wd):Pl :=
 if w.kind=2 then { pl0 with index:=w.index } else if w.kind=4 then { pl0 with ch:=w.ch } else if w.kind=5 then { pl0 with op:=w.op }
 else if w.kind=6 then { pl0 with op:=w.op,err:=w.err,rep:=w.rep,host:=w.host }
 else if w.kind=7 then { pl0 with zone:=w.zone,epoch:=w.epoch,index:=w.index,size:=w.size,off:=w.off,sf:=w.sf,st:=w.st }
 else if w.kind=8 then { pl0 with zone:=w.zone,epoch:=w.epoch,index:=w.index,off:=w.off }
 else if w.kind=9∨w.kind=10 then { pl0 with zone:=w.zone,epoch:=w.epoch,index:=w.index } else pl0
def mayW (w:Wd):Bool:=okW w&&eqPl w.pl (namedW w)&&(decide (w.data≠[])==hasD w.kind)&&(mapsB w.mp==hasM w.kind)&&decide (w.data.length≤131072)
end Go.Proofs.Ytogamdaomdoapaa
namespace Go.Proofs.Ytogamdaomdoapaa
set_option maxRecDepth 20000
open Go.RowKit
theorem isNumW (n:Int) (w:World):Calls Try.prog 53 #[.int .i64 n] w fun e w'=>e=.returned (.bool (numW n))∧w'=w:=by
 obtain ⟨r,hr⟩:∃ r,r=numW n:=⟨_,rfl⟩
 rw [←hr]
 unfold numW at hr
 go_enter Try.func53,Try.ntmps53
 by_cases h1:0≤n
 ·go_wp2_with fail
  go_ret
  refine ⟨?_,rfl⟩
  rw [hr]
  by_cases h2:n≤1099511627776<;>simp [h1,h2]
 ·obtain rfl:r=false:=by rw [hr,decide_eq_false_iff_not];omega
  clear hr
  go_wp2_with fail
  go_ret
  exact ⟨rfl,rfl⟩
theorem zonedW_any (d:Wd) (ms ds:Value) (w:World):Calls Try.prog 58 #[.agg #[.int .i64 d.kind,.int .i64 d.zone,.int .i64 d.epoch,.int .i64 d.index,.int .i64 d.size,.int .i64 d.off,.int .i64 d.host,.int .i64 d.err,.string d.sf,.string d.st,.int .i64 d.op.kind,.int .i64 d.op.client,.int .i64 d.op.seq,.string d.op.key,.string d.op.who,.string d.op.tkey,.string d.op.twho,.int .i64 d.op.item,.int .i64 d.op.count,.int .i64 d.op.price,.bool d.op.buy,.int .i64 d.op.id,.int .i64 d.rep.err,.int .i64 d.rep.id,.int .i64 d.rep.i.a,.int .i64 d.rep.i.b,.int .i64 d.rep.i.c,.int .i64 d.rep.i.d,.int .i64 d.mp.ver,.int .i64 d.mp.next,ms,.int .i64 d.ch.kind,.int .i64 d.ch.zone,.int .i64 d.ch.epoch,.int .i64 d.ch.tt,.string d.ch.key,ds]] w fun e w'=>e=.returned (.bool (zonedW d))∧Below w.heap.size w w':=by
 go_enter Try.func58,Try.ntmps58
 go_wp2_with fail
 all_goals try (go_ret;refine ⟨?_,(bg)⟩;unfold zonedW;congr 2;simp;omega)
 refine (isNumW _ _).mono ?_
 rintro e w' ⟨rfl,rfl⟩
 go_wp2_with fail
 go_ret
 refine ⟨?_,(bg)⟩
 unfold zonedW
 congr 2
 simp
 omega
end Go.Proofs.Ytogamdaomdoapaa
namespace Go.Proofs.Ytogamdaomdoapaa
open Go.RowKit
theorem wp_hold {P:Program} {c1 c2:Code} {Q:Exit→Act→World→Prop} {a:Act} {w:World} (h:∀ C,Hid (C=c2)→(c1.seq C).wp P Q a w):(c1.seq c2).wp P Q a w:=h c2 (Lib.hid rfl)
theorem wp_holdQ {P:Program} {c:Code} {Q:Exit→Act→World→Prop} {a:Act} {w:World} (h:∀ R,Hid (R=Q)→c.wp P R a w):c.wp P Q a w:=h Q (Lib.hid rfl)
theorem list_hold {P:Program} {ops:Array Oper} {Q:Exit→Act→World→Prop} {l:List Oper} {a:Act} {w:World} (n:Nat) (h:∀ L,Hid (L=l.drop n)→wpList P ops Q (l.take n++L) a w):wpList P ops Q l a w:=by
 have:=h _ (Lib.hid rfl)
 rwa [List.take_append_drop] at this
theorem exec_load_row {P:Program} {ev:Operand→Value} {o:Oper} {w:World} (ty:TypeId) (x:Operand) (ho:o.op=.load ty x) (g:Nat) (hx:ev x=.pointer (some ⟨g,0,none⟩)) (t:TypeId) (cs:Array Value) (fr:Nat × Nat) (d:TypeDesc) (hg:w.heap[g]?=some (.cells cs t fr))
 (hu:P.underlying ty=some d) (hd:(match d with | .struct _ | .array _ _=>true | _=>false)=true) (hi:(P.info? ty).map (·.size)=some cs.size):(execOp ev o).run P w=.ok (.value (.agg cs)) w:=by
 unfold execOp
 simp only [ho,hx,Instr.loadAt,Instr.sureAddr,Sem.run_bind,Sem.run_pure,Result.andThen_ok,run_loadVar_row w g t ty cs fr d hg hu hd hi]
end Go.Proofs.Ytogamdaomdoapaa
namespace Go.Proofs.Ytogamdaomdoapaa
set_option maxRecDepth 20000
open Go.RowKit
def wdV (d:Wd) (ms ds:Value):Array Value:=#[.int .i64 d.kind,.int .i64 d.zone,.int .i64 d.epoch,.int .i64 d.index,.int .i64 d.size,.int .i64 d.off,.int .i64 d.host,.int .i64 d.err,.string d.sf,.string d.st,.int .i64 d.op.kind,.int .i64 d.op.client,.int .i64 d.op.seq,.string d.op.key,.string d.op.who,.string d.op.tkey,.string d.op.twho,.int .i64 d.op.item,.int .i64 d.op.count,.int .i64 d.op.price,.bool d.op.buy,.int .i64 d.op.id,.int .i64 d.rep.err,.int .i64 d.rep.id,.int .i64 d.rep.i.a,.int .i64 d.rep.i.b,.int .i64 d.rep.i.c,.int .i64 d.rep.i.d,.int .i64 d.mp.ver,.int .i64 d.mp.next,ms,.int .i64 d.ch.kind,.int .i64 d.ch.zone,.int .i64 d.ch.epoch,.int .i64 d.ch.tt,.string d.ch.key,ds]
structure WBox (w:World) (n:Nat) (d:Wd) (ms ds:Value):Prop where
 c0:w.cell? ⟨n,0,none⟩=some (.int .i64 d.kind)
 c1:w.cell? ⟨n,1,none⟩=some (.int .i64 d.zone)
 c2:w.cell? ⟨n,2,none⟩=some (.int .i64 d.epoch)
 c3:w.cell? ⟨n,3,none⟩=some (.int .i64 d.index)
 c4:w.cell? ⟨n,4,none⟩=some (.int .i64 d.size)
 c5:w.cell? ⟨n,5,none⟩=some (.int .i64 d.off)
 c6:w.cell? ⟨n,6,none⟩=some (.int .i64 d.host)
 c7:w.cell? ⟨n,7,none⟩=some (.int .i64 d.err)
 c8:w.cell? ⟨n,8,none⟩=some (.string d.sf)
 c9:w.cell? ⟨n,9,none⟩=some (.string d.st)
 c10:w.cell? ⟨n,10,none⟩=some (.int .i64 d.op.kind)
 c11:w.cell? ⟨n,11,none⟩=some (.int .i64 d.op.client)
 c12:w.cell? ⟨n,12,none⟩=some (.int .i64 d.op.seq)
 c13:w.cell? ⟨n,13,none⟩=some (.string d.op.key)
 c14:w.cell? ⟨n,14,none⟩=some (.string d.op.who)
 c15:w.cell? ⟨n,15,none⟩=some (.string d.op.tkey)
 c16:w.cell? ⟨n,16,none⟩=some (.string d.op.twho)
 c17:w.cell? ⟨n,17,none⟩=some (.int .i64 d.op.item)
 c18:w.cell? ⟨n,18,none⟩=some (.int .i64 d.op.count)
 c19:w.cell? ⟨n,19,none⟩=some (.int .i64 d.op.price)
 c20:w.cell? ⟨n,20,none⟩=some (.bool d.op.buy)
 c21:w.cell? ⟨n,21,none⟩=some (.int .i64 d.op.id)
 c22:w.cell? ⟨n,22,none⟩=some (.int .i64 d.rep.err)
 c23:w.cell? ⟨n,23,none⟩=some (.int .i64 d.rep.id)
 c24:w.cell? ⟨n,24,none⟩=some (.int .i64 d.rep.i.a)
 c25:w.cell? ⟨n,25,none⟩=some (.int .i64 d.rep.i.b)
 c26:w.cell? ⟨n,26,none⟩=some (.int .i64 d.rep.i.c)
 c27:w.cell? ⟨n,27,none⟩=some (.int .i64 d.rep.i.d)
 c28:w.cell? ⟨n,28,none⟩=some (.int .i64 d.mp.ver)
 c29:w.cell? ⟨n,29,none⟩=some (.int .i64 d.mp.next)
 c30:w.cell? ⟨n,30,none⟩=some (ms)
 c31:w.cell? ⟨n,31,none⟩=some (.int .i64 d.ch.kind)
 c32:w.cell? ⟨n,32,none⟩=some (.int .i64 d.ch.zone)
 c33:w.cell? ⟨n,33,none⟩=some (.int .i64 d.ch.epoch)
 c34:w.cell? ⟨n,34,none⟩=some (.int .i64 d.ch.tt)
 c35:w.cell? ⟨n,35,none⟩=some (.string d.ch.key)
 c36:w.cell? ⟨n,36,none⟩=some (ds)
theorem wbox {w:World} {n:Nat} {d:Wd} {ms ds:Value} {t:TypeId} {fr:Nat × Nat} (h:w.heap[n]?=some (.cells (wdV d ms ds) t fr)):WBox w n d ms ds:=by
 have e:=fun k=>cell_of_row w n k _ _ _ h
 constructor
 all_goals (rw [e];rfl)
theorem zoned_v {d:Wd} {ms ds:Value} {V:Array Value} (hV:V=wdV d ms ds) (w:World):Calls Try.prog 58 #[.agg V] w fun e w'=>e=.returned (.bool (zonedW d))∧Below w.heap.size w w':=by
 subst hV
 exact zonedW_any d ms ds w
end Go.Proofs.Ytogamdaomdoapaa
namespace Go.Proofs.Ytogamdaomdoapaa
set_option maxRecDepth 20000
open Go.RowKit
def plV (p:Pl):Array Value:=#[.int .i64 p.zone,.int .i64 p.epoch,.int .i64 p.index,.int .i64 p.size,.int .i64 p.off,.int .i64 p.host,.int .i64 p.err,.string p.sf,.string p.st,.int .i64 p.op.kind,.int .i64 p.op.client,.int .i64 p.op.seq,.string p.op.key,.string p.op.who,.string p.op.tkey,.string p.op.twho,.int .i64 p.op.item,.int .i64 p.op.count,.int .i64 p.op.price,.bool p.op.buy,.int .i64 p.op.id,.int .i64 p.rep.err,.int .i64 p.rep.id,.int .i64 p.rep.i.a,.int .i64 p.rep.i.b,.int .i64 p.rep.i.c,.int .i64 p.rep.i.d,.int .i64 p.ch.kind,.int .i64 p.ch.zone,.int .i64 p.ch.epoch,.int .i64 p.ch.tt,.string p.ch.key]
theorem ite_res {c:Prop} [Decidable c] {X:Result Bool} {w:World} {b:Bool} (h:X=.ok b w):(if c then X else .ok false w)=.ok (decide c&&b) w:=by
 by_cases hc:c
 ·rw [if_pos hc,h,decide_eq_true hc,Bool.true_and]
 ·rw [if_neg hc,decide_eq_false hc,Bool.false_and]
theorem eql_itm9998 (a b:It) (w:World) (r:Bool) (hr:decide (a.a=b.a∧a.b=b.b∧a.c=b.c∧a.d=b.d)=r):(Op.equalIn 9998 55 (.agg #[.int .i64 a.a,.int .i64 a.b,.int .i64 a.c,.int .i64 a.d]) (.agg #[.int .i64 b.a,.int .i64 b.b,.int .i64 b.c,.int .i64 b.d])).run Try.prog w=.ok r w:=by
 subst hr
 have u3:=Try.underlying3
 have a3:=Try.isAgg3
 have z3:=Try.sizeOf3
 rw [show (9998:Nat)=9998 - 1+1 from rfl,Op.equalIn]
 simp only [Sem.run_bind,run_underlying Try.underlying55,Result.andThen_ok]
 simp only [Std.Legacy.Range.forIn_eq_forIn_range',Std.Legacy.Range.size,Nat.sub_zero,Nat.add_sub_cancel,Nat.div_one,List.range'_succ,List.range'_zero,List.forIn_cons,List.forIn_nil]
 go_simp
 by_cases h1:a.a=b.a
 ·by_cases h2:a.b=b.b
  ·by_cases h3:a.c=b.c
   ·by_cases h4:a.d=b.d
    ·simp [h1,h2,h3,h4]
    ·simp [h1,h2,h3,h4]
   ·simp [h1,h2,h3]
  ·simp [h1,h2]
 ·simp [h1]
theorem eql_itm9999 (a b:It) (w:World) (r:Bool) (hr:decide (a.a=b.a∧a.b=b.b∧a.c=b.c∧a.d=b.d)=r):(Op.equalIn 9999 55 (.agg #[.int .i64 a.a,.int .i64 a.b,.int .i64 a.c,.int .i64 a.d]) (.agg #[.int .i64 b.a,.int .i64 b.b,.int .i64 b.c,.int .i64 b.d])).run Try.prog w=.ok r w:=by
 subst hr
 have u3:=Try.underlying3
 have a3:=Try.isAgg3
 have z3:=Try.sizeOf3
 rw [show (9999:Nat)=9999 - 1+1 from rfl,Op.equalIn]
 simp only [Sem.run_bind,run_underlying Try.underlying55,Result.andThen_ok]
 simp only [Std.Legacy.Range.forIn_eq_forIn_range',Std.Legacy.Range.size,Nat.sub_zero,Nat.add_sub_cancel,Nat.div_one,List.range'_succ,List.range'_zero,List.forIn_cons,List.forIn_nil]
 go_simp
 by_cases h1:a.a=b.a
 ·by_cases h2:a.b=b.b
  ·by_cases h3:a.c=b.c
   ·by_cases h4:a.d=b.d
    ·simp [h1,h2,h3,h4]
    ·simp [h1,h2,h3,h4]
   ·simp [h1,h2,h3]
  ·simp [h1,h2]
 ·simp [h1]
theorem eql_rep (a b:Rp) (w:World) (r:Bool) (hr:eqRp a b=r):(Op.equalIn 10000 57 (.agg #[.int .i64 a.err,.int .i64 a.id,.int .i64 a.i.a,.int .i64 a.i.b,.int .i64 a.i.c,.int .i64 a.i.d]) (.agg #[.int .i64 b.err,.int .i64 b.id,.int .i64 b.i.a,.int .i64 b.i.b,.int .i64 b.i.c,.int .i64 b.i.d])).run Try.prog w=.ok r w:=by
 subst hr
 obtain ⟨q,hq⟩:∃ q,decide (a.i.a=b.i.a∧a.i.b=b.i.b∧a.i.c=b.i.c∧a.i.d=b.i.d)=q:=⟨_,rfl⟩
 have hit:=eql_itm9999 a.i b.i w q hq
 go_simp
 unfold eqRp
 cases q with
 | true =>
  simp only [Bool.true_eq_false,if_false]
  refine Eq.trans (by (repeat apply ite_res);rfl) ?_
  congr 1
  rw [decide_eq_true_eq] at hq
  rw [Bool.eq_iff_iff]
  simp only [Bool.and_eq_true,decide_eq_true_eq,Bool.and_true]
  grind
 | false =>
  simp only [if_true]
  refine Eq.trans (by (repeat apply ite_res);rfl) ?_
  congr 1
  rw [decide_eq_false_iff_not] at hq
  rw [Bool.eq_iff_iff]
  simp only [decide_eq_true_eq,Bool.and_false,Bool.false_eq_true,false_iff]
  grind
set_option maxHeartbeats 1000000 in
theorem eql_pl (a b:Pl) (w:World) (r:Bool) (hr:eqPl a b=r):(Op.equalIn 10000 108 (.agg (plV a)) (.agg (plV b))).run Try.prog w=.ok r w:=by
 subst hr
 obtain ⟨q,hq⟩:∃ q,decide (a.rep.i.a=b.rep.i.a∧a.rep.i.b=b.rep.i.b∧a.rep.i.c=b.rep.i.c∧a.rep.i.d=b.rep.i.d)=q:=⟨_,rfl⟩
 have hit:=eql_itm9998 a.rep.i b.rep.i w q hq
 unfold plV
 go_simp
 cases q with
 | true =>
  simp only [Bool.true_eq_false,if_false]
  refine Eq.trans (by (repeat apply ite_res);rfl) ?_
  congr 1
  rw [decide_eq_true_eq] at hq
  unfold eqPl eqR eqRp eqCh
  rw [Bool.eq_iff_iff]
  simp only [Bool.and_eq_true,decide_eq_true_eq,Bool.and_true]
  grind
 | false =>
  simp only [if_true]
  refine Eq.trans (by (repeat apply ite_res);rfl) ?_
  congr 1
  rw [decide_eq_false_iff_not] at hq
  unfold eqPl eqR eqRp eqCh
  rw [Bool.eq_iff_iff]
  simp only [Bool.and_eq_true,decide_eq_true_eq,Bool.and_false,Bool.false_eq_true,false_iff]
  grind
end Go.Proofs.Ytogamdaomdoapaa