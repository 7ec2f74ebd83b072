/- Texts put together: RMp, WdP, WZo, Hold, WBx, WEq, WAn. -/
import Derived.Test.YtogamdaomdoapaaGreatSa01
import Derived.Test.YtogamdaomdoapaaGreatSa03
import Derived.Test.YtogamdaomdoapaaGreatSa06
import Derived.Test.YtogamdaomdoapaaGreatSa07
import Derived.Laws.Rows
namespace Go.Proofs.YtogamdaomdoapaaGreat
def zq:Zn:=⟨0,z0,z0,0,0,0,0,z0,0⟩
def clashB (l:List Zn) (i:Nat) (n:Int):Bool:=(List.range l.length).any fun k=>decide (k≠i)&&((l.getD k zq).pend==1&&(l.getD k zq).nw==n)
def splitsB (m:Mp) (i:Nat) (z:Zn):Bool:=cutOk z.fr z.to z.key&&(decide (z.tt=0∧1≤z.nw∧z.nw<m.next)&&((findZ m.zs z.nw).isNone&&!clashB m.zs i z.nw))
def mergesB (l:List Zn) (i:Nat) (z:Zn):Bool:=match findZ l z.nw with
 | none=>false
 | some k=>decide (z.tt=0∧z.key.toList=[]∧(k=i+1∨k+1=i))&&decide ((l.getD k zq).pend=2∧(l.getD k zq).nw=z.id∧(l.getD k zq).owner=z.owner)
def headB (m:Mp) (i:Nat) (z:Zn):Bool:=decide (1≤z.id∧z.id<m.next∧findZ m.zs z.id=some i∧1≤z.owner∧z.owner≤1048576∧1≤z.epoch∧z.epoch≤1099511627776)
def kindB (m:Mp) (i:Nat) (z:Zn):Bool:=if z.pend=0 then decide (z.tt=0∧z.key.toList=[]∧z.nw=0) else if z.pend=3 then decide (1≤z.tt∧z.tt≤1048576∧z.tt≠z.owner∧z.key.toList=[]∧z.nw=0) else if z.pend=1 then splitsB m i z else if z.pend=2 then mergesB m.zs i z else false
def zoneB (m:Mp) (i:Nat) (z:Zn):Bool:=headB m i z&&kindB m i z
def mayM (m:Mp):Bool:=decide (1≤m.ver∧m.ver≤1099511627776∧1≤m.next∧m.next≤1099511627776∧m.zs.length≤16)&&(((List.range m.zs.length).all fun i=>zoneB m i (m.zs.getD i zq))&&rAll (m.zs.map spz))
theorem clash_hit {l:List Zn} {i k:Nat} {n:Int} (h:k<l.length) (hk:k≠i) (h1:l[k].pend=1) (h2:l[k].nw=n):clashB l i n=true:=by
 unfold clashB
 rw [List.any_eq_true]
 exact ⟨k,by simpa using h,by simp [h,hk,h1,h2]⟩
theorem clash_end {l:List Zn} {i:Nat} {n:Int} (h:∀ k (hk:k<l.length),k≠i→l[k].pend=1→l[k].nw≠n):clashB l i n=false:=by
 unfold clashB
 rw [List.any_eq_false]
 intro k hk
 have hk:k<l.length:=by simpa using hk
 have:=h k hk
 simp only [List.getD_eq_getElem?_getD,List.getElem?_eq_getElem hk,Option.getD_some]
 simpa using this
theorem z0_toList:z0.toList=[]:=by simp [z0]
theorem Inv.zoneB {m:Mp} (h:Inv m) {i:Nat} {z:Zn} (hi:m.zs[i]?=some z):zoneB m i z=true:=by
 have hz:=List.mem_of_getElem? hi
 obtain ⟨o1,o2,o3,o4,o5⟩:=h.ok z hz
 have hid:=h.lt _ (id_mem hz)
 have hf:=h.at hi
 unfold Go.Proofs.YtogamdaomdoapaaGreat.zoneB
 rw [Bool.and_eq_true]
 refine ⟨by unfold headB;rw [decide_eq_true_eq];exact ⟨hid.1,hid.2,hf,o1,o2,o3,o4⟩,?_⟩
 unfold kindB
 rcases o5 with ⟨p,q1,q2,q3⟩ | ⟨p,q1,q2,q3,q4,q5⟩ | ⟨p,q1,q2⟩ | ⟨p,q1,q2⟩
 ·rw [if_pos p,decide_eq_true_eq,q2];exact ⟨q1,z0_toList,q3⟩
 ·rw [if_neg (by omega),if_pos p,decide_eq_true_eq,q4];exact ⟨q1,q2,q3,z0_toList,q5⟩
 ·rw [if_neg (by omega),if_neg (by omega),if_pos p]
  obtain ⟨f1,f2,f3⟩:=h.fresh hi p
  unfold splitsB
  rw [q2,f1,clash_end (fun k hk hki hp=>f3 k _ (List.getElem?_eq_getElem hk) hki hp)]
  simp [q1,f2.1,f2.2]
 ·rw [if_neg (by omega),if_neg (by omega),if_neg (by omega),if_pos p]
  obtain ⟨k,y,m1,m2,m3,m4,m5,m6⟩:=h.mate hi p
  unfold mergesB
  rw [m1]
  simp only [List.getD_eq_getElem?_getD,m2,Option.getD_some]
  rw [Bool.and_eq_true,decide_eq_true_eq,decide_eq_true_eq,q2]
  exact ⟨⟨q1,z0_toList,m3⟩,m4,m5,m6⟩
theorem Inv.mayM {m:Mp} (h:Inv m):mayM m=true:=by
 unfold Go.Proofs.YtogamdaomdoapaaGreat.mayM
 rw [Bool.and_eq_true,Bool.and_eq_true,decide_eq_true_eq,List.all_eq_true]
 refine ⟨⟨h.ver.1,h.ver.2,h.next.1,h.next.2,h.len⟩,fun i hi=>?_,by rw [←all_same];exact h.all⟩
 have hi:i<m.zs.length:=by simpa using hi
 rw [List.getD_eq_getElem?_getD,List.getElem?_eq_getElem hi]
 exact h.zoneB (List.getElem?_eq_getElem hi)
end Go.Proofs.YtogamdaomdoapaaGreat
namespace Go.Proofs.YtogamdaomdoapaaGreat
open Go.RowKit
structure Wd where
 kind:Int
 zone:Int
 epoch:Int
 index:Int
 size:Int
 off:Int
 host:Int
 err:Int
 sf:ByteArray
 st:ByteArray
 op:Rq
 rep:Rp
 mp:Mp
 ch:Ch
 data:List UInt8
structure Pl where
 zone:Int
 epoch:Int
 index:Int
 size:Int
 off:Int
 host:Int
 err:Int
 sf:ByteArray
 st:ByteArray
 op:Rq
 rep:Rp
 ch:Ch
def rq0:Rq:=⟨0,0,0,e0,e0,e0,e0,0,0,0,false,0⟩
def ch0:Ch:=⟨0,0,0,0,e0⟩
def mp0:Mp:=⟨0,0,[]⟩
def pl0:Pl:=⟨0,0,0,0,0,0,0,e0,e0,rq0,zRp,ch0⟩
def Wd.pl (w:Wd):Pl:=⟨w.zone,w.epoch,w.index,w.size,w.off,w.host,w.err,w.sf,w.st,w.op,w.rep,w.ch⟩
def eqRp (a b:Rp):Bool:=decide (a.err=b.err∧a.id=b.id∧a.i.a=b.i.a∧a.i.b=b.i.b∧a.i.c=b.i.c∧a.i.d=b.i.d)
def eqCh (a b:Ch):Bool:=decide (a.kind=b.kind∧a.zone=b.zone∧a.epoch=b.epoch∧a.tt=b.tt∧a.key.toList=b.key.toList)
def eqPl (a b:Pl):Bool:=decide (a.zone=b.zone∧a.epoch=b.epoch∧a.index=b.index∧a.size=b.size∧a.off=b.off∧a.host=b.host∧a.err=b.err∧a.sf.toList=b.sf.toList∧a.st.toList=b.st.toList)&&eqR a.op b.op&&eqRp a.rep b.rep&&eqCh a.ch b.ch
def numW (n:Int):Bool:=decide (0≤n∧n≤1099511627776)
def zonedW (w:Wd):Bool:=decide (1≤w.zone∧w.zone≤1099511627776∧1≤w.epoch∧w.epoch≤1099511627776)&&numW w.index
def headR (o:Rq):Rq:={ rq0 with kind:=o.kind,client:=o.client,seq:=o.seq }
def ansW (w:Wd):Bool:=eqR w.op (headR w.op)&&decide (1≤w.op.kind∧w.op.kind≤7∧1≤w.op.client∧w.op.client≤1048576∧1≤w.op.seq∧w.op.seq≤1099511627776∧0≤w.err∧w.err≤19)&&numW w.host&&mayR w.rep&&(decide (w.err=0) || eqRp w.rep zRp)
def copyW (w:Wd):Bool:=zonedW w&&decide (1≤w.size∧w.size≤524288∧0≤w.off∧w.off≤w.size∧(w.data.length:Int)≤w.size - w.off∧(w.data.length:Int)≤512)&&isB w.sf w.st
def hasD (k:Int):Bool:=decide (k=1∨k=7∨k=9)
def hasM (k:Int):Bool:=decide (k=3)
def mapsB (m:Mp):Bool:=decide (m.ver≠0∨m.next≠0∨m.zs≠[])
def okW (w:Wd):Bool :=
 if w.kind=1 then true else if w.kind=2 then numW w.index else if w.kind=3 then mayM w.mp else if w.kind=4 then mayC w.ch
 else if w.kind=5 then mayO w.op else if w.kind=6 then ansW w else if w.kind=7 then copyW w else if w.kind=8 then zonedW w&&numW w.off
 else if w.kind=9 then zonedW w else if w.kind=10 then zonedW w else false
def namedW (w:Wd):Pl :=
 if w.kind=2 then { pl0 with index:=w.index } else if w.kind=4 then { pl0 with ch:=w.ch } else if w.kind=5 then { pl0 with op:=w.op }
 else if w.kind=6 then { pl0 with op:=w.op,err:=w.err,rep:=w.rep,host:=w.host }
 else if w.kind=7 then { pl0 with zone:=w.zone,epoch:=w.epoch,index:=w.index,size:=w.size,off:=w.off,sf:=w.sf,st:=w.st }
 else if w.kind=8 then { pl0 with zone:=w.zone,epoch:=w.epoch,index:=w.index,off:=w.off }
 else if w.kind=9∨w.kind=10 then { pl0 with zone:=w.zone,epoch:=w.epoch,index:=w.index } else pl0
def mayW (w:Wd):Bool:=okW w&&eqPl w.pl (namedW w)&&(decide (w.data≠[])==hasD w.kind)&&(mapsB w.mp==hasM w.kind)&&decide (w.data.length≤131072)
def numsW (w:Wd):Bool:=numW w.zone&&numW w.epoch&&numW w.index&&numW w.size&&numW w.off&&numW w.host&&decide (w.data.length≤131072)
def okD (w:Wd):Bool :=
 if w.kind=1 then decide (w.data≠[]) else if w.kind=2 then true else if w.kind=3 then mayM w.mp else if w.kind=4 then mayC w.ch
 else if w.kind=5 then mayO w.op else if w.kind=6 then eqR w.op (headR w.op)&&decide (1≤w.op.kind∧w.op.kind≤7∧1≤w.op.client∧w.op.client≤1048576∧1≤w.op.seq∧w.op.seq≤1099511627776∧0≤w.err∧w.err≤19)&&mayR w.rep&&(decide (w.err=0) || eqRp w.rep zRp)
 else if w.kind=7 then decide (0<w.zone∧0<w.epoch∧0<w.size∧w.size≤524288∧w.data≠[]∧(w.data.length:Int)≤512∧w.off≤w.size - (w.data.length:Int))&&isB w.sf w.st
 else if w.kind=8 then decide (0<w.zone∧0<w.epoch) else if w.kind=9 then decide (0<w.zone∧0<w.epoch∧w.data≠[]) else if w.kind=10 then decide (0<w.zone∧0<w.epoch) else false
def dataW (w:Wd):List UInt8:=if hasD w.kind then w.data else []
def mapW (w:Wd):Mp:=if hasM w.kind then w.mp else mp0
def sameM (a b:Mp):Bool:=decide (a.ver=b.ver∧a.next=b.next∧a.zs=b.zs)
def docW (w:Wd):Bool:=okD w&&numsW w&&(eqPl (namedW w) w.pl&&sameM (mapW w) w.mp&&decide (dataW w=w.data))
theorem eqRq_comm (a b:Rq):eqR a b=eqR b a:=by
 unfold eqR;congr 1;simp only [eq_iff_iff];constructor<;>(rintro ⟨h1,h2,h3,h4,h5,h6,h7,h8,h9,h10,h11,h12⟩;exact ⟨h1.symm,h2.symm,h3.symm,h4.symm,h5.symm,h6.symm,h7.symm,h8.symm,h9.symm,h10.symm,h11.symm,h12.symm⟩)
theorem eqRp_comm (a b:Rp):eqRp a b=eqRp b a:=by
 unfold eqRp;congr 1;simp only [eq_iff_iff];constructor<;>(rintro ⟨h1,h2,h3,h4,h5,h6⟩;exact ⟨h1.symm,h2.symm,h3.symm,h4.symm,h5.symm,h6.symm⟩)
theorem eqCh_comm (a b:Ch):eqCh a b=eqCh b a:=by
 unfold eqCh;congr 1;simp only [eq_iff_iff];constructor<;>(rintro ⟨h1,h2,h3,h4,h5⟩;exact ⟨h1.symm,h2.symm,h3.symm,h4.symm,h5.symm⟩)
theorem eqPl_comm (a b:Pl):eqPl a b=eqPl b a:=by
 unfold eqPl;rw [eqRq_comm,eqRp_comm,eqCh_comm];congr 3;congr 1;simp only [eq_iff_iff];constructor<;>(rintro ⟨h1,h2,h3,h4,h5,h6,h7,h8,h9⟩;exact ⟨h1.symm,h2.symm,h3.symm,h4.symm,h5.symm,h6.symm,h7.symm,h8.symm,h9.symm⟩)
theorem eqPl_nums {a b:Pl} (h:eqPl a b=true):a.zone=b.zone∧a.epoch=b.epoch∧a.index=b.index∧a.size=b.size∧a.off=b.off∧a.host=b.host∧a.err=b.err:=by
 unfold eqPl at h;simp only [Bool.and_eq_true,decide_eq_true_eq] at h;exact ⟨h.1.1.1.1,h.1.1.1.2.1,h.1.1.1.2.2.1,h.1.1.1.2.2.2.1,h.1.1.1.2.2.2.2.1,h.1.1.1.2.2.2.2.2.1,h.1.1.1.2.2.2.2.2.2.1⟩
theorem mayM_maps {m:Mp} (h:mayM m=true):mapsB m=true:=by
 unfold mayM at h;simp only [Bool.and_eq_true,decide_eq_true_eq] at h;unfold mapsB;rw [decide_eq_true_eq];omega
theorem docW_eq (w:Wd):docW w=mayW w:=by
 unfold docW mayW
 rw [eqPl_comm]
 cases hP:eqPl w.pl (namedW w) with
 | false=>simp
 | true =>
  obtain ⟨n1,n2,n3,n4,n5,n6,n7⟩:=eqPl_nums hP
  have hm3:=@mayM_maps w.mp
  simp only [Wd.pl] at n1 n2 n3 n4 n5 n6 n7
  have hk:w.kind=1∨w.kind=2∨w.kind=3∨w.kind=4∨w.kind=5∨w.kind=6∨w.kind=7∨w.kind=8∨w.kind=9∨w.kind=10∨(w.kind≠1∧w.kind≠2∧w.kind≠3∧w.kind≠4∧w.kind≠5∧w.kind≠6∧w.kind≠7∧w.kind≠8∧w.kind≠9∧w.kind≠10):=by omega
  have hs:sameM mp0 w.mp=!mapsB w.mp:=by
   unfold sameM mapsB mp0;rw [Bool.eq_iff_iff];simp only [decide_eq_true_eq,Bool.not_eq_true',decide_eq_false_iff_not]
   constructor
   ·rintro ⟨a,b,c⟩ h;rcases h with h | h | h
    ·exact h a.symm
    ·exact h b.symm
    ·exact h c.symm
   ·intro h;refine ⟨?_,?_,?_⟩
    ·by_cases x:w.mp.ver=0
     ·exact x.symm
     ·exact absurd (.inl x) h
    ·by_cases x:w.mp.next=0
     ·exact x.symm
     ·exact absurd (.inr (.inl x)) h
    ·by_cases x:w.mp.zs=[]
     ·exact x.symm
     ·exact absurd (.inr (.inr x)) h
  have hs2:sameM w.mp w.mp=true:=by unfold sameM;simp
  have hd:decide (([]:List UInt8)=w.data)=!decide (w.data≠[]):=by
   rw [Bool.eq_iff_iff];simp only [decide_eq_true_eq,Bool.not_eq_true',decide_eq_false_iff_not,ne_eq,Classical.not_not];exact eq_comm
  unfold namedW at n1 n2 n3 n4 n5 n6 n7
  unfold okD okW numsW
  rcases hk with k | k | k | k | k | k | k | k | k | k | ⟨k1,k2,k3,k4,k5,k6,k7,k8,k9,k10⟩
  case inr.inr.inr.inr.inr.inr.inr.inr.inr.inr=>simp [k1,k2,k3,k4,k5,k6,k7,k8,k9,k10]
  all_goals
   simp only [k,pl0,Int.reduceEq,if_true,if_false,or_self,or_true,or_false] at n1 n2 n3 n4 n5 n6 n7
   have eD:hasD w.kind=hasD w.kind:=rfl
   have eM:hasM w.kind=hasM w.kind:=rfl
   conv at eD=>rhs;rw [k,hasD]
   conv at eM=>rhs;rw [k,hasM]
   rw [k] at eD eM
   simp only [Int.reduceEq,or_self,or_true,true_or,decide_true,decide_false] at eD eM
   simp only [mapW,dataW,eD,eM,if_true,hs,hs2,k,Int.reduceEq,if_false,Bool.true_and,Bool.and_true,hd,Bool.false_eq_true]
   clear hs hs2 hd eD eM hP k
   rw [Bool.eq_iff_iff]
   simp only [zonedW,copyW,ansW,numW,n1,n2,n3,n4,n5,n6,Bool.and_eq_true,decide_eq_true_eq,Bool.not_eq_true',beq_iff_eq,decide_eq_false_iff_not,ne_eq,Classical.not_not]
   have hl:w.data=[]↔w.data.length=0:=List.length_eq_zero_iff.symm
   generalize mapsB w.mp=a at *
   simp only [hl]
   clear hl n7
   revert hm3
   grind
end Go.Proofs.YtogamdaomdoapaaGreat
namespace Go.Proofs.YtogamdaomdoapaaGreat
set_option maxRecDepth 20000
open Go.RowKit
theorem isNumW (n:Int) (w:World):Calls Tryz.prog 107 #[.int .i64 n] w fun e w'=>e=.returned (.bool (numW n))∧w'=w:=by
 obtain ⟨r,hr⟩:∃ r,r=numW n:=⟨_,rfl⟩
 rw [←hr]
 unfold numW at hr
 go_enter Tryz.func107,Tryz.ntmps107
 by_cases h1:0≤n
 ·go_wp2_with fail
  go_ret
  refine ⟨?_,rfl⟩
  rw [hr]
  by_cases h2:n≤1099511627776<;>simp [h1,h2]
 ·obtain rfl:r=false:=by rw [hr,decide_eq_false_iff_not];omega
  clear hr
  go_wp2_with fail
  go_ret
  exact ⟨rfl,rfl⟩
theorem zonedW_any (d:Wd) (ms ds:Value) (w:World):Calls Tryz.prog 112 #[.agg #[.int .i64 d.kind,.int .i64 d.zone,.int .i64 d.epoch,.int .i64 d.index,.int .i64 d.size,.int .i64 d.off,.int .i64 d.host,.int .i64 d.err,.string d.sf,.string d.st,.int .i64 d.op.kind,.int .i64 d.op.client,.int .i64 d.op.seq,.string d.op.key,.string d.op.who,.string d.op.tkey,.string d.op.twho,.int .i64 d.op.item,.int .i64 d.op.count,.int .i64 d.op.price,.bool d.op.buy,.int .i64 d.op.id,.int .i64 d.rep.err,.int .i64 d.rep.id,.int .i64 d.rep.i.a,.int .i64 d.rep.i.b,.int .i64 d.rep.i.c,.int .i64 d.rep.i.d,.int .i64 d.mp.ver,.int .i64 d.mp.next,ms,.int .i64 d.ch.kind,.int .i64 d.ch.zone,.int .i64 d.ch.epoch,.int .i64 d.ch.tt,.string d.ch.key,ds]] w fun e w'=>e=.returned (.bool (zonedW d))∧Below w.heap.size w w':=by
 go_enter Tryz.func112,Tryz.ntmps112
 go_wp2_with fail
 all_goals try (go_ret;refine ⟨?_,(bg)⟩;unfold zonedW;congr 2;simp;omega)
 refine (isNumW _ _).mono ?_
 rintro e w' ⟨rfl,rfl⟩
 go_wp2_with fail
 go_ret
 refine ⟨?_,(bg)⟩
 unfold zonedW
 congr 2
 simp
 omega
end Go.Proofs.YtogamdaomdoapaaGreat
namespace Go.Proofs.YtogamdaomdoapaaGreat
open Go.RowKit
theorem wp_hold {P:Program} {c1 c2:Code} {Q:Exit→Act→World→Prop} {a:Act} {w:World} (h:∀ C,Hid (C=c2)→(c1.seq C).wp P Q a w):(c1.seq c2).wp P Q a w:=h c2 (Lib.hid rfl)
theorem wp_holdQ {P:Program} {c:Code} {Q:Exit→Act→World→Prop} {a:Act} {w:World} (h:∀ R,Hid (R=Q)→c.wp P R a w):c.wp P Q a w:=h Q (Lib.hid rfl)
theorem list_hold {P:Program} {ops:Array Oper} {Q:Exit→Act→World→Prop} {l:List Oper} {a:Act} {w:World} (n:Nat) (h:∀ L,Hid (L=l.drop n)→wpList P ops Q (l.take n++L) a w):wpList P ops Q l a w:=by
 have:=h _ (Lib.hid rfl)
 rwa [List.take_append_drop] at this
theorem list_name {P:Program} {ops:Array Oper} {Q:Exit→Act→World→Prop} {l:List Oper} {a:Act} {w:World} (h:∀ w3,w3=w→wpList P ops Q l a w3):wpList P ops Q l a w:=h w rfl
theorem exec_load_row {P:Program} {ev:Operand→Value} {o:Oper} {w:World} (ty:TypeId) (x:Operand) (ho:o.op=.load ty x) (g:Nat) (hx:ev x=.pointer (some ⟨g,0,none⟩)) (t:TypeId) (cs:Array Value) (fr:Nat × Nat) (d:TypeDesc) (hg:w.heap[g]?=some (.cells cs t fr))
 (hu:P.underlying ty=some d) (hd:(match d with | .struct _ | .array _ _=>true | _=>false)=true) (hi:(P.info? ty).map (·.size)=some cs.size):(execOp ev o).run P w=.ok (.value (.agg cs)) w:=by
 unfold execOp
 simp only [ho,hx,Instr.loadAt,Instr.sureAddr,Sem.run_bind,Sem.run_pure,Result.andThen_ok,run_loadVar_row w g t ty cs fr d hg hu hd hi]
end Go.Proofs.YtogamdaomdoapaaGreat
namespace Go.Proofs.YtogamdaomdoapaaGreat
set_option maxRecDepth 20000
open Go.RowKit
def wdV (d:Wd) (ms ds:Value):Array Value:=#[.int .i64 d.kind,.int .i64 d.zone,.int .i64 d.epoch,.int .i64 d.index,.int .i64 d.size,.int .i64 d.off,.int .i64 d.host,.int .i64 d.err,.string d.sf,.string d.st,.int .i64 d.op.kind,.int .i64 d.op.client,.int .i64 d.op.seq,.string d.op.key,.string d.op.who,.string d.op.tkey,.string d.op.twho,.int .i64 d.op.item,.int .i64 d.op.count,.int .i64 d.op.price,.bool d.op.buy,.int .i64 d.op.id,.int .i64 d.rep.err,.int .i64 d.rep.id,.int .i64 d.rep.i.a,.int .i64 d.rep.i.b,.int .i64 d.rep.i.c,.int .i64 d.rep.i.d,.int .i64 d.mp.ver,.int .i64 d.mp.next,ms,.int .i64 d.ch.kind,.int .i64 d.ch.zone,.int .i64 d.ch.epoch,.int .i64 d.ch.tt,.string d.ch.key,ds]
structure WBox (w:World) (n:Nat) (d:Wd) (ms ds:Value):Prop where
 c0:w.cell? ⟨n,0,none⟩=some (.int .i64 d.kind)
 c1:w.cell? ⟨n,1,none⟩=some (.int .i64 d.zone)
 c2:w.cell? ⟨n,2,none⟩=some (.int .i64 d.epoch)
 c3:w.cell? ⟨n,3,none⟩=some (.int .i64 d.index)
 c4:w.cell? ⟨n,4,none⟩=some (.int .i64 d.size)
 c5:w.cell? ⟨n,5,none⟩=some (.int .i64 d.off)
 c6:w.cell? ⟨n,6,none⟩=some (.int .i64 d.host)
 c7:w.cell? ⟨n,7,none⟩=some (.int .i64 d.err)
 c8:w.cell? ⟨n,8,none⟩=some (.string d.sf)
 c9:w.cell? ⟨n,9,none⟩=some (.string d.st)
 c10:w.cell? ⟨n,10,none⟩=some (.int .i64 d.op.kind)
 c11:w.cell? ⟨n,11,none⟩=some (.int .i64 d.op.client)
 c12:w.cell? ⟨n,12,none⟩=some (.int .i64 d.op.seq)
 c13:w.cell? ⟨n,13,none⟩=some (.string d.op.key)
 c14:w.cell? ⟨n,14,none⟩=some (.string d.op.who)
 c15:w.cell? ⟨n,15,none⟩=some (.string d.op.tkey)
 c16:w.cell? ⟨n,16,none⟩=some (.string d.op.twho)
 c17:w.cell? ⟨n,17,none⟩=some (.int .i64 d.op.item)
 c18:w.cell? ⟨n,18,none⟩=some (.int .i64 d.op.count)
 c19:w.cell? ⟨n,19,none⟩=some (.int .i64 d.op.price)
 c20:w.cell? ⟨n,20,none⟩=some (.bool d.op.buy)
 c21:w.cell? ⟨n,21,none⟩=some (.int .i64 d.op.id)
 c22:w.cell? ⟨n,22,none⟩=some (.int .i64 d.rep.err)
 c23:w.cell? ⟨n,23,none⟩=some (.int .i64 d.rep.id)
 c24:w.cell? ⟨n,24,none⟩=some (.int .i64 d.rep.i.a)
 c25:w.cell? ⟨n,25,none⟩=some (.int .i64 d.rep.i.b)
 c26:w.cell? ⟨n,26,none⟩=some (.int .i64 d.rep.i.c)
 c27:w.cell? ⟨n,27,none⟩=some (.int .i64 d.rep.i.d)
 c28:w.cell? ⟨n,28,none⟩=some (.int .i64 d.mp.ver)
 c29:w.cell? ⟨n,29,none⟩=some (.int .i64 d.mp.next)
 c30:w.cell? ⟨n,30,none⟩=some (ms)
 c31:w.cell? ⟨n,31,none⟩=some (.int .i64 d.ch.kind)
 c32:w.cell? ⟨n,32,none⟩=some (.int .i64 d.ch.zone)
 c33:w.cell? ⟨n,33,none⟩=some (.int .i64 d.ch.epoch)
 c34:w.cell? ⟨n,34,none⟩=some (.int .i64 d.ch.tt)
 c35:w.cell? ⟨n,35,none⟩=some (.string d.ch.key)
 c36:w.cell? ⟨n,36,none⟩=some (ds)
theorem wbox {w:World} {n:Nat} {d:Wd} {ms ds:Value} {t:TypeId} {fr:Nat × Nat} (h:w.heap[n]?=some (.cells (wdV d ms ds) t fr)):WBox w n d ms ds:=by
 have e:=fun k=>cell_of_row w n k _ _ _ h
 constructor
 all_goals (rw [e];rfl)
theorem zoned_v {d:Wd} {ms ds:Value} {V:Array Value} (hV:V=wdV d ms ds) (w:World):Calls Tryz.prog 112 #[.agg V] w fun e w'=>e=.returned (.bool (zonedW d))∧Below w.heap.size w w':=by
 subst hV
 exact zonedW_any d ms ds w
end Go.Proofs.YtogamdaomdoapaaGreat
namespace Go.Proofs.YtogamdaomdoapaaGreat
set_option maxRecDepth 20000
open Go.RowKit
def plV (p:Pl):Array Value:=#[.int .i64 p.zone,.int .i64 p.epoch,.int .i64 p.index,.int .i64 p.size,.int .i64 p.off,.int .i64 p.host,.int .i64 p.err,.string p.sf,.string p.st,.int .i64 p.op.kind,.int .i64 p.op.client,.int .i64 p.op.seq,.string p.op.key,.string p.op.who,.string p.op.tkey,.string p.op.twho,.int .i64 p.op.item,.int .i64 p.op.count,.int .i64 p.op.price,.bool p.op.buy,.int .i64 p.op.id,.int .i64 p.rep.err,.int .i64 p.rep.id,.int .i64 p.rep.i.a,.int .i64 p.rep.i.b,.int .i64 p.rep.i.c,.int .i64 p.rep.i.d,.int .i64 p.ch.kind,.int .i64 p.ch.zone,.int .i64 p.ch.epoch,.int .i64 p.ch.tt,.string p.ch.key]
theorem ite_res {c:Prop} [Decidable c] {X:Result Bool} {w:World} {b:Bool} (h:X=.ok b w):(if c then X else .ok false w)=.ok (decide c&&b) w:=by
 by_cases hc:c
 ·rw [if_pos hc,h,decide_eq_true hc,Bool.true_and]
 ·rw [if_neg hc,decide_eq_false hc,Bool.false_and]
theorem eql_itm9998 (a b:It) (w:World) (r:Bool) (hr:decide (a.a=b.a∧a.b=b.b∧a.c=b.c∧a.d=b.d)=r):(Op.equalIn 9998 39 (.agg #[.int .i64 a.a,.int .i64 a.b,.int .i64 a.c,.int .i64 a.d]) (.agg #[.int .i64 b.a,.int .i64 b.b,.int .i64 b.c,.int .i64 b.d])).run Tryz.prog w=.ok r w:=by
 subst hr
 have u3:=Tryz.underlying3
 have a3:=Tryz.isAgg3
 have z3:=Tryz.sizeOf3
 rw [show (9998:Nat)=9998 - 1+1 from rfl,Op.equalIn]
 simp only [Sem.run_bind,run_underlying Tryz.underlying39,Result.andThen_ok]
 simp only [Std.Legacy.Range.forIn_eq_forIn_range',Std.Legacy.Range.size,Nat.sub_zero,Nat.add_sub_cancel,Nat.div_one,List.range'_succ,List.range'_zero,List.forIn_cons,List.forIn_nil]
 go_simp
 by_cases h1:a.a=b.a
 ·by_cases h2:a.b=b.b
  ·by_cases h3:a.c=b.c
   ·by_cases h4:a.d=b.d
    ·simp [h1,h2,h3,h4]
    ·simp [h1,h2,h3,h4]
   ·simp [h1,h2,h3]
  ·simp [h1,h2]
 ·simp [h1]
theorem eql_itm9999 (a b:It) (w:World) (r:Bool) (hr:decide (a.a=b.a∧a.b=b.b∧a.c=b.c∧a.d=b.d)=r):(Op.equalIn 9999 39 (.agg #[.int .i64 a.a,.int .i64 a.b,.int .i64 a.c,.int .i64 a.d]) (.agg #[.int .i64 b.a,.int .i64 b.b,.int .i64 b.c,.int .i64 b.d])).run Tryz.prog w=.ok r w:=by
 subst hr
 have u3:=Tryz.underlying3
 have a3:=Tryz.isAgg3
 have z3:=Tryz.sizeOf3
 rw [show (9999:Nat)=9999 - 1+1 from rfl,Op.equalIn]
 simp only [Sem.run_bind,run_underlying Tryz.underlying39,Result.andThen_ok]
 simp only [Std.Legacy.Range.forIn_eq_forIn_range',Std.Legacy.Range.size,Nat.sub_zero,Nat.add_sub_cancel,Nat.div_one,List.range'_succ,List.range'_zero,List.forIn_cons,List.forIn_nil]
 go_simp
 by_cases h1:a.a=b.a
 ·by_cases h2:a.b=b.b
  ·by_cases h3:a.c=b.c
   ·by_cases h4:a.d=b.d
    ·simp [h1,h2,h3,h4]
    ·simp [h1,h2,h3,h4]
   ·simp [h1,h2,h3]
  ·simp [h1,h2]
 ·simp [h1]
theorem eql_rep (a b:Rp) (w:World) (r:Bool) (hr:eqRp a b=r):(Op.equalIn 10000 41 (.agg #[.int .i64 a.err,.int .i64 a.id,.int .i64 a.i.a,.int .i64 a.i.b,.int .i64 a.i.c,.int .i64 a.i.d]) (.agg #[.int .i64 b.err,.int .i64 b.id,.int .i64 b.i.a,.int .i64 b.i.b,.int .i64 b.i.c,.int .i64 b.i.d])).run Tryz.prog w=.ok r w:=by
 subst hr
 obtain ⟨q,hq⟩:∃ q,decide (a.i.a=b.i.a∧a.i.b=b.i.b∧a.i.c=b.i.c∧a.i.d=b.i.d)=q:=⟨_,rfl⟩
 have hit:=eql_itm9999 a.i b.i w q hq
 go_simp
 unfold eqRp
 cases q with
 | true =>
  simp only [Bool.true_eq_false,if_false]
  refine Eq.trans (by (repeat apply ite_res);rfl) ?_
  congr 1
  rw [decide_eq_true_eq] at hq
  rw [Bool.eq_iff_iff]
  simp only [Bool.and_eq_true,decide_eq_true_eq,Bool.and_true]
  grind
 | false =>
  simp only [if_true]
  refine Eq.trans (by (repeat apply ite_res);rfl) ?_
  congr 1
  rw [decide_eq_false_iff_not] at hq
  rw [Bool.eq_iff_iff]
  simp only [decide_eq_true_eq,Bool.and_false,Bool.false_eq_true,false_iff]
  grind
set_option maxHeartbeats 1000000 in
theorem eql_pl (a b:Pl) (w:World) (r:Bool) (hr:eqPl a b=r):(Op.equalIn 10000 173 (.agg (plV a)) (.agg (plV b))).run Tryz.prog w=.ok r w:=by
 subst hr
 obtain ⟨q,hq⟩:∃ q,decide (a.rep.i.a=b.rep.i.a∧a.rep.i.b=b.rep.i.b∧a.rep.i.c=b.rep.i.c∧a.rep.i.d=b.rep.i.d)=q:=⟨_,rfl⟩
 have hit:=eql_itm9998 a.rep.i b.rep.i w q hq
 unfold plV
 go_simp
 cases q with
 | true =>
  simp only [Bool.true_eq_false,if_false]
  refine Eq.trans (by (repeat apply ite_res);rfl) ?_
  congr 1
  rw [decide_eq_true_eq] at hq
  unfold eqPl eqR eqRp eqCh
  rw [Bool.eq_iff_iff]
  simp only [Bool.and_eq_true,decide_eq_true_eq,Bool.and_true]
  grind
 | false =>
  simp only [if_true]
  refine Eq.trans (by (repeat apply ite_res);rfl) ?_
  congr 1
  rw [decide_eq_false_iff_not] at hq
  unfold eqPl eqR eqRp eqCh
  rw [Bool.eq_iff_iff]
  simp only [Bool.and_eq_true,decide_eq_true_eq,Bool.and_false,Bool.false_eq_true,false_iff]
  grind
end Go.Proofs.YtogamdaomdoapaaGreat
namespace Go.Proofs.YtogamdaomdoapaaGreat
set_option maxRecDepth 20000
open Go.RowKit
set_option maxHeartbeats 4000000 in
theorem isCopy_any {d:Wd} {ms ds:Value} {V:Array Value} (hV:V=wdV d ms ds) (dl:Option Addr) (dc:Nat) (hds:ds=.slice dl d.data.length dc) (w:World) (hd:d.data.length≤9223372036854775807):Calls Tryz.prog 111 #[.agg V] w fun e w'=>e=.returned (.bool (copyW d))∧Below w.heap.size w w':=by
 obtain ⟨r,hr⟩:∃ r,r=copyW d:=⟨_,rfl⟩
 obtain ⟨z,hz⟩:∃ z,z=zonedW d:=⟨_,rfl⟩
 have Hzo:=Lib.hid (fun w=>zoned_v hV w)
 have hs:V.size=37:=by rw [hV];rfl
 have HV:=Lib.hid hV
 obtain ⟨n,hn⟩:∃ n,n=d.data.length:=⟨_,rfl⟩
 rw [←hn] at hds hd
 rw [←hz] at Hzo
 rw [←hr]
 have Hr:Hid (r=(z&&decide (1≤d.size∧d.size≤524288∧0≤d.off∧d.off≤d.size∧(n:Int)≤d.size - d.off∧(n:Int)≤512)&&isB d.sf d.st)):=Lib.hid (by rw [hr,hz,hn];rfl)
 clear hr hz hn hV
 go_enter Tryz.func111,Tryz.ntmps111
 ((refine wp_hold fun C HC=>?_);(go_wp2_with fail);(refine wp_name fun wa hwa=>?_;have wa_s0:=sg w.heap.size hwa;have wa_b:Below w.heap.size w wa:=(by rw [hwa];exact bg);have wa_bh:wa.heap[w.heap.size]?=some (.cells V 85 (0,0)):=(by rw [hwa];exact heap_alloc_new w _);clear hwa);(obtain ⟨c0,c1,c2,c3,c4,c5,c6,c7,c8,c9,c10,c11,c12,c13,c14,c15,c16,c17,c18,c19,c20,c21,c22,c23,c24,c25,c26,c27,c28,c29,c30,c31,c32,c33,c34,c35,c36⟩:=wbox (show wa.heap[w.heap.size]?=some (.cells (wdV d ms ds) 85 (0,0)) from (by rw [←HV.out];exact wa_bh)));(have hC:=HC.out);clear HC;subst hC)
 subst hds
 refine wp_seq ?_
 refine wp_region_lit ?_
 (refine wpList_load_row rfl 85 _ rfl w.heap.size rfl _ _ _ _ wa_bh Tryz.underlying85 rfl (by rw [hs];kernel_rfl) ?_)
 go_wp2_with fail
 refine (Hzo.out _).mono ?_
 (rintro e w1 ⟨rfl,w1_h⟩;obtain ⟨w1_hc,w1_hf⟩:=bcell w1_h;have w1_z:=w1_h.size;have w1_b:=wa_b.trans (w1_h.mono (by have:=wa_b.size;omega));have w1_le:=w1_b.size;have w1_s0:w.heap.size<w1.heap.size:=(by omega);clear w1_h)
 cases z with
 | false =>
  go_wp2_with fail
  go_ret
  exact ⟨by rw [Hr.out];rfl,w1_b⟩
 | true =>
  go_wp2_with fail
  all_goals try (go_ret;refine ⟨?_,w1_b⟩;rw [Hr.out];congr 2;simp;omega)
  refine (span_is _ _ _).mono ?_
  rintro e w2 ⟨rfl,h2⟩
  go_wp2_with fail
  go_ret
  refine ⟨?_,w1_b.trans (h2.mono w1_b.size)⟩
  rw [Hr.out,decide_eq_true (by refine ⟨?_,?_,?_,?_,?_,?_⟩<;>omega)]
  rfl
theorem encrep_e (r:Rp) (w:World) (m:Bool) (hm:mayR r=m):Calls Tryz.prog 118 #[.agg #[.int .i64 r.err,.int .i64 r.id,.int .i64 r.i.a,.int .i64 r.i.b,.int .i64 r.i.c,.int .i64 r.i.d]] w fun e w'=>Below w.heap.size w w'∧∃ v,∃ ev:Int,e=.returned (.tuple #[v,.int .i64 ev])∧(ev==0)=m:=by
 cases m with
 | true =>
  refine (encrep_yes r w hm).mono ?_
  rintro e w' ⟨ao,cap,rfl,-,hb⟩
  exact ⟨hb,_,_,rfl,rfl⟩
 | false =>
  refine (encrep_no r w hm).mono ?_
  rintro e w' ⟨rfl,hb⟩
  exact ⟨hb,_,_,rfl,rfl⟩
set_option maxHeartbeats 4000000 in
theorem isAnswer_any {d:Wd} {ms ds:Value} {V:Array Value} (hV:V=wdV d ms ds) (w:World):Calls Tryz.prog 110 #[.agg V] w fun e w'=>e=.returned (.bool (ansW d))∧Below w.heap.size w w':=by
 have hs:V.size=37:=by rw [hV];rfl
 have HV:=Lib.hid hV
 clear hV
 obtain ⟨r,hr⟩:∃ r,r=ansW d:=⟨_,rfl⟩
 rw [←hr]
 obtain ⟨q,hq⟩:∃ q,q=eqR d.op (headR d.op):=⟨_,rfl⟩
 obtain ⟨h,hh⟩:∃ h,h=numW d.host:=⟨_,rfl⟩
 obtain ⟨m,hm⟩:∃ m,m=mayR d.rep:=⟨_,rfl⟩
 obtain ⟨z,hz⟩:∃ z,z=eqRp d.rep zRp:=⟨_,rfl⟩
 have heq1:=fun w=>eql_api.Op d.op (headR d.op) w q hq.symm
 have heq2:=fun w=>eql_rep d.rep zRp w z hz.symm
 have Hnum:=Lib.hid (fun w=>isNumW d.host w)
 have Henc:=Lib.hid (fun w=>encrep_e d.rep w m hm.symm)
 rw [←hh] at Hnum
 have Hr:Hid (r=(q&&decide (1≤d.op.kind∧d.op.kind≤7∧1≤d.op.client∧d.op.client≤1048576∧1≤d.op.seq∧d.op.seq≤1099511627776∧0≤d.err∧d.err≤19)&&h&&m&&(decide (d.err=0) || z))):=Lib.hid (by rw [hr,hq,hh,hm,hz];rfl)
 simp only [headR,rq0] at heq1
 simp only [zRp] at heq2
 clear hr hq hh hm hz
 go_enter Tryz.func110,Tryz.ntmps110
 ((refine wp_hold fun C HC=>?_);(go_wp2_with fail);(refine wp_name fun wa hwa=>?_;have wa_s0:=sg w.heap.size hwa;have wa_b:Below w.heap.size w wa:=(by rw [hwa];exact bg);have wa_bh:wa.heap[w.heap.size]?=some (.cells V 85 (0,0)):=(by rw [hwa];exact heap_alloc_new w _);clear hwa);(obtain ⟨c0,c1,c2,c3,c4,c5,c6,c7,c8,c9,c10,c11,c12,c13,c14,c15,c16,c17,c18,c19,c20,c21,c22,c23,c24,c25,c26,c27,c28,c29,c30,c31,c32,c33,c34,c35,c36⟩:=wbox (show wa.heap[w.heap.size]?=some (.cells (wdV d ms ds) 85 (0,0)) from (by rw [←HV.out];exact wa_bh)));(have hC:=HC.out);clear HC;subst hC)
 refine wp_hold fun C2 HC2=>?_
 go_wp2_with fail
 refine (Henc.out _).mono ?_
 rintro e w1 ⟨w1_h,v,ev,rfl,hev⟩
 have Hev:=Lib.hid hev
 clear hev
 ((have w1_bh:=(w1_h.block _ wa_s0).trans wa_bh);(have w1_s0:w.heap.size<w1.heap.size:=Nat.lt_of_lt_of_le wa_s0 w1_h.size);(have w1_b:=wa_b.trans (w1_h.mono wa_b.size));(clear c0 c1 c2 c3 c4 c5 c6 c7 c8 c9 c10 c11 c12 c13 c14 c15 c16 c17 c18 c19 c20 c21 c22 c23 c24 c25 c26 c27 c28 c29 c30 c31 c32 c33 c34 c35 c36);(obtain ⟨c0,c1,c2,c3,c4,c5,c6,c7,c8,c9,c10,c11,c12,c13,c14,c15,c16,c17,c18,c19,c20,c21,c22,c23,c24,c25,c26,c27,c28,c29,c30,c31,c32,c33,c34,c35,c36⟩:=wbox (show w1.heap[w.heap.size]?=some (.cells (wdV d ms ds) 85 (0,0)) from (by rw [←HV.out];exact w1_bh)));clear w1_h)
 clear wa_bh
 go_wp2_with fail
 (have hC:=HC2.out);clear HC2;subst hC
 refine wp_hold fun C3 HC3=>?_
 go_wp2_with fail
 refine wp_name fun w2 hw2=>?_
 have w2_h:Below w1.heap.size w1 w2:=by rw [hw2];exact (Below.refl _ _).alloc (Nat.le_refl _) _
 have w2_n:w2.heap[w1.heap.size]?=some _:=(by rw [hw2];exact heap_alloc_new w1 _)
 have b0:=cell_of_row w2 w1.heap.size 0 _ _ _ w2_n
 have b1:=cell_of_row w2 w1.heap.size 1 _ _ _ w2_n
 have b2:=cell_of_row w2 w1.heap.size 2 _ _ _ w2_n
 have b3:=cell_of_row w2 w1.heap.size 3 _ _ _ w2_n
 have b4:=cell_of_row w2 w1.heap.size 4 _ _ _ w2_n
 have b5:=cell_of_row w2 w1.heap.size 5 _ _ _ w2_n
 have b6:=cell_of_row w2 w1.heap.size 6 _ _ _ w2_n
 have b7:=cell_of_row w2 w1.heap.size 7 _ _ _ w2_n
 have b8:=cell_of_row w2 w1.heap.size 8 _ _ _ w2_n
 have b9:=cell_of_row w2 w1.heap.size 9 _ _ _ w2_n
 have b10:=cell_of_row w2 w1.heap.size 10 _ _ _ w2_n
 have b11:=cell_of_row w2 w1.heap.size 11 _ _ _ w2_n
 ((have w2_bh:=(w2_h.block _ w1_s0).trans w1_bh);(have w2_s0:w.heap.size<w2.heap.size:=Nat.lt_of_lt_of_le w1_s0 w2_h.size);(have w2_b:=w1_b.trans (w2_h.mono w1_b.size));(clear c0 c1 c2 c3 c4 c5 c6 c7 c8 c9 c10 c11 c12 c13 c14 c15 c16 c17 c18 c19 c20 c21 c22 c23 c24 c25 c26 c27 c28 c29 c30 c31 c32 c33 c34 c35 c36);(obtain ⟨c0,c1,c2,c3,c4,c5,c6,c7,c8,c9,c10,c11,c12,c13,c14,c15,c16,c17,c18,c19,c20,c21,c22,c23,c24,c25,c26,c27,c28,c29,c30,c31,c32,c33,c34,c35,c36⟩:=wbox (show w2.heap[w.heap.size]?=some (.cells (wdV d ms ds) 85 (0,0)) from (by rw [←HV.out];exact w2_bh)));clear w2_h)
 clear w1_bh w2_n hw2
 (have hC:=HC3.out);clear HC3;subst hC
 clear c0 c1 c2 c3 c4 c5 c8 c9 c28 c29 c30 c31 c32 c33 c34 c35 c36 w2_bh w2_s0
 have he0:e0=⟨#[]⟩:=rfl
 rw [he0] at heq1
 clear he0
 refine wp_seq ?_
 refine wp_region_lit ?_
 refine list_hold 4 fun L HL=>?_
 simp only [List.append_eq,List.cons_append,List.nil_append,List.take_succ_cons,List.take_zero]
 go_wp2_with fail
 clear heq1 c10 c11 c12 c13 c14 c15 c16 c17 c18 c19 c20 c21 b3 b4 b5 b6 b7 b8 b9 b10 b11
 generalize Value.agg #[.int .i64 d.op.kind,.int .i64 d.op.client,.int .i64 d.op.seq,.string d.op.key,.string d.op.who,.string d.op.tkey,.string d.op.twho,.int .i64 d.op.item,.int .i64 d.op.count,.int .i64 d.op.price,.bool d.op.buy,.int .i64 d.op.id]=j1
 generalize Value.agg #[.int .i64 d.rep.err,.int .i64 d.rep.id,.int .i64 d.rep.i.a,.int .i64 d.rep.i.b,.int .i64 d.rep.i.c,.int .i64 d.rep.i.d]=j2
 (have hL:=HL.out);clear HL;subst hL
 simp only [List.append_eq,List.cons_append,List.nil_append,List.drop_succ_cons,List.drop_zero]
 have hev:=Hev.out
 cases q with
 | false =>
  go_wp2_with fail
  go_ret
  exact ⟨by rw [Hr.out];rfl,w2_b⟩
 | true =>
  cases h with
  | false =>
   go_wp2_with fail
   all_goals try (go_ret;refine ⟨?_,w2_b⟩;rw [Hr.out,decide_eq_false (by omega)];rfl)
   refine (Hnum.out _).mono ?_
   rintro e w' ⟨rfl,rfl⟩
   go_wp2_with fail
   go_ret
   refine ⟨?_,w2_b⟩
   rw [Hr.out,decide_eq_true (by refine ⟨?_,?_,?_,?_,?_,?_,?_,?_⟩<;>omega)]
   rfl
  | true =>
   go_wp2_with fail
   all_goals try (go_ret;refine ⟨?_,w2_b⟩;rw [Hr.out,decide_eq_false (by omega)];rfl)
   refine (Hnum.out _).mono ?_
   rintro e w' ⟨rfl,rfl⟩
   have hm8:Hid (1≤d.op.kind∧d.op.kind≤7∧1≤d.op.client∧d.op.client≤1048576∧1≤d.op.seq∧d.op.seq≤1099511627776∧0≤d.err∧d.err≤19):=Lib.hid (by refine ⟨?_,?_,?_,?_,?_,?_,?_,?_⟩<;>omega)
   cases m with
   | false =>
    go_wp2_with fail
    go_ret
    refine ⟨?_,w2_b⟩
    rw [Hr.out,decide_eq_true hm8.out]
    rfl
   | true =>
    by_cases hz0:d.err=0
    ·have hz1:(d.err==0)=true:=by rw [hz0];rfl
     go_wp2_with fail
     go_ret
     refine ⟨?_,w2_b⟩
     rw [Hr.out,decide_eq_true hm8.out,decide_eq_true hz0]
     rfl
    ·have hz1:(d.err==0)=false:=by rw [beq_eq_false_iff_ne];exact hz0
     cases z with
     | false =>
      go_wp2_with fail
      go_ret
      refine ⟨?_,w2_b⟩
      rw [Hr.out,decide_eq_true hm8.out,decide_eq_false hz0]
      rfl
     | true =>
      go_wp2_with fail
      go_ret
      refine ⟨?_,w2_b⟩
      rw [Hr.out,decide_eq_true hm8.out,decide_eq_false hz0]
      rfl
end Go.Proofs.YtogamdaomdoapaaGreat