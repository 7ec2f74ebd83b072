/- Texts put together: ODp, OMp. -/
import Derived.Test.YtogamdaomdoapaaZa09
import Derived.Test.YtogamdaomdoapaaZa10
import Derived.Test.YtogamdaomdoapaaZa14
import Derived.Test.YtogamdaomdoapaaZa15
namespace Go.Proofs.Ytogamdaomdoapaa.O
open Go.RowKit
set_option maxRecDepth 20000
structure ZIs (r:List UInt8) (b:Bool) (zid:Nat) (fr to:List UInt8) (owner epoch pend tt:Nat) (key:List UInt8) (nw:Nat) (r1:List UInt8) (b1:Bool) (r2:List UInt8) (b2:Bool) (r3:List UInt8) (b3:Bool) (r4:List UInt8) (b4:Bool) (r5:List UInt8) (b5:Bool) (r6:List UInt8) (b6:Bool):Prop where
 e1:numT r b=(zid,r1,b1)
 e2:tookOf r1 b1=(fr,r2,b2)
 e3:tookOf r2 b2=(to,r3,b3)
 v0:owner=rdVal r3 b3 0
 v1:epoch=rdVal r3 b3 1
 v2:pend=rdVal r3 b3 2
 v3:tt=rdVal r3 b3 3
 e4:rdSt r3 b3 4=(r4,b4)
 e5:tookOf r4 b4=(key,r5,b5)
 e6:numT r5 b5=(nw,r6,b6)
 l1:r1.length≤r.length
 l2:r2.length≤r.length
 l3:r3.length≤r.length
 l4:r4.length≤r.length
 l5:r5.length≤r.length
 l6:r6.length≤r.length
 k1:fr.length≤r.length
 k2:to.length≤r.length
 k3:key.length≤r.length
 nb:nw≤4611686018427387904
 rd:rdZ (r,b)=⟨zid,txt fr,txt to,owner,epoch,pend,tt,txt key,nw⟩
 st:s6 (r,b)=(r6,b6)
theorem eta3 {α β γ:Type} (t:α × β × γ):t=(t.1,t.2.1,t.2.2):=rfl
theorem took_len {r x r':List UInt8} {b b':Bool} (h:tookOf r b=(x,r',b')):x.length≤r.length∧r'.length≤r.length:=tookOf_le h.symm
theorem zis (r:List UInt8) (b:Bool):∃ zid fr to owner epoch pend tt key nw r1 b1 r2 b2 r3 b3 r4 b4 r5 b5 r6 b6,ZIs r b zid fr to owner epoch pend tt key nw r1 b1 r2 b2 r3 b3 r4 b4 r5 b5 r6 b6:=by
 obtain ⟨zid,r1,b1,e1⟩:∃ n x y,numT r b=(n,x,y):=⟨_,_,_,eta3 _⟩
 obtain ⟨fr,r2,b2,e2⟩:∃ n x y,tookOf r1 b1=(n,x,y):=⟨_,_,_,eta3 _⟩
 obtain ⟨to,r3,b3,e3⟩:∃ n x y,tookOf r2 b2=(n,x,y):=⟨_,_,_,eta3 _⟩
 obtain ⟨r4,b4,e4⟩:∃ x y,rdSt r3 b3 4=(x,y):=⟨_,_,rfl⟩
 obtain ⟨key,r5,b5,e5⟩:∃ n x y,tookOf r4 b4=(n,x,y):=⟨_,_,_,eta3 _⟩
 obtain ⟨nw,r6,b6,e6⟩:∃ n x y,numT r5 b5=(n,x,y):=⟨_,_,_,eta3 _⟩
 have h1:rdVal r b 0=zid:=by unfold rdVal;rw [rz];dsimp only;rw [e1]
 have h1s:rdSt r b 1=(r1,b1):=by
  have:=rd_step r b 0 1 rfl
  rw [rz] at this
  dsimp only at this
  rw [e1] at this
  simp only [Prod.mk.injEq] at this
  rw [←Prod.eta (rdSt r b 1),←this.2.1,←this.2.2]
 have h6:rdVal r5 b5 0=nw:=by unfold rdVal;rw [rz];dsimp only;rw [e6]
 have h6s:rdSt r5 b5 1=(r6,b6):=by
  have:=rd_step r5 b5 0 1 rfl
  rw [rz] at this
  dsimp only at this
  rw [e6] at this
  simp only [Prod.mk.injEq] at this
  rw [←Prod.eta (rdSt r5 b5 1),←this.2.1,←this.2.2]
 have a2:t2 (r,b)=(fr,r2,b2):=by unfold t2 s1;dsimp only;rw [h1s];exact e2
 have a3:t3 (r,b)=(to,r3,b3):=by unfold t3;rw [a2];exact e3
 have a4:s4 (r,b)=(r4,b4):=by unfold s4;rw [a3];exact e4
 have a5:t5 (r,b)=(key,r5,b5):=by unfold t5;rw [a4];exact e5
 have a6:s6 (r,b)=(r6,b6):=by unfold s6;rw [a5];exact h6s
 have l1:r1.length≤r.length:=by have:=(numT_le r b).1;rw [e1] at this;exact this
 obtain ⟨k2,l2⟩:=took_len e2
 obtain ⟨k3,l3⟩:=took_len e3
 have l4:r4.length≤r3.length:=by have:=rdSt_le r3 b3 4;rw [e4] at this;exact this
 obtain ⟨k5,l5⟩:=took_len e5
 have l6:r6.length≤r5.length:=by have:=(numT_le r5 b5).1;rw [e6] at this;exact this
 have nb:nw≤4611686018427387904:=by rw [←h6];exact rdVal_le _ _ _
 have hrd:rdZ (r,b)=⟨zid,txt fr,txt to,rdVal r3 b3 0,rdVal r3 b3 1,rdVal r3 b3 2,rdVal r3 b3 3,txt key,nw⟩:=by
  unfold rdZ
  rw [a2,a3,a5]
  dsimp only
  rw [h1,h6]
 exact ⟨zid,fr,to,rdVal r3 b3 0,rdVal r3 b3 1,rdVal r3 b3 2,rdVal r3 b3 3,key,nw,r1,b1,r2,b2,r3,b3,r4,b4,r5,b5,r6,b6,⟨e1,e2,e3,rfl,rfl,rfl,rfl,e4,e5,e6,l1,by omega,by omega,by omega,by omega,by omega,by omega,by omega,by omega,nb,hrd,a6⟩⟩
theorem txt_size (l:List UInt8):(txt l).size=l.length:=by simp [txt,ByteArray.size]
theorem encS_pos (s:ByteArray):1≤(encS s).length:=by
 have:=(encN_length s.data.toList.length).2
 simp only [encS,encRow,List.length_append]
 omega
theorem encZ_pos (z:Zn):9≤(encZ z).length:=by
 have h1:=(encN_length (clampN z.id)).2
 have h2:=(encN_length (clampN z.owner)).2
 have h3:=(encN_length (clampN z.epoch)).2
 have h4:=(encN_length (clampN z.pend)).2
 have h5:=(encN_length (clampN z.tt)).2
 have h6:=(encN_length (clampN z.nw)).2
 have h7:=encS_pos z.fr
 have h8:=encS_pos z.to
 have h9:=encS_pos z.key
 unfold encZ
 simp only [encs_cons,encs_nil,List.append_nil,List.length_append]
 omega
theorem s6_less {s:Rs} (h:(s6 s).2=false):(s6 s).1.length+9≤s.1.length:=by
 obtain ⟨-,h2⟩:=rdZ_back h
 have h1:=encZ_pos (rdZ s)
 have:=congrArg List.length h2
 rw [List.length_append] at this
 omega
theorem news_ad (w:World) (n:Nat) (hn:n=w.heap.size) (cur:Array Value) (t:TypeId):∀ ad,(some ⟨n,0,none⟩:Option Addr)=some ad→∀ (j:Nat) u,cur.toList[j]?=some u→(w.alloc (.cells cur t)).cell? (ad.add j)=some u:=by
 subst hn
 intro ad e j u hu
 obtain rfl:=Option.some.inj e
 rw [add_none,Nat.zero_add,(cells_of_obj (heap_new w _)).1]
 simpa using hu
def zz9:Array Value:=#[.int .i64 0,.string ⟨#[]⟩,.string ⟨#[]⟩,.int .i64 0,.int .i64 0,.int .i64 0,.int .i64 0,.string ⟨#[]⟩,.int .i64 0]
theorem zoneInfoO:(Try.prog.info? 128).map (fun i=>(i.zero,i.size,i.bytes))=some (some (.agg zz9),9,96):=by kernel_rfl
structure RdI (l:List UInt8) (j:Nat) (L:List Zn) (r:List UInt8) (b:Bool):Prop where
 all:rdZs (rdVal l false 2) (rdSt l false 3)=(L++(rdZs j (r,b)).1,(rdZs j (r,b)).2)
 good:b=false→9 * L.length+r.length≤l.length
 len:9 * L.length≤l.length+9
 left:r.length≤l.length
 sz:∀ z∈L,z.fr.size≤l.length∧z.to.size≤l.length∧z.key.size≤l.length∧0≤z.nw∧z.nw≤4611686018427387904
theorem rdZs_succ (k:Nat) (s:Rs):rdZs (k+1) s=if s.2=true then ([],s) else (rdZ s::(rdZs k (s6 s)).1,(rdZs k (s6 s)).2):=rfl
theorem RdI.start (l:List UInt8):RdI l (rdVal l false 2) [] (rdSt l false 3).1 (rdSt l false 3).2 :=
 ⟨rfl,fun _=>by simpa using rdSt_le l false 3,by simp,rdSt_le l false 3,fun _ h=>by simp at h⟩
theorem RdI.next {l:List UInt8} {j:Nat} {L:List Zn} {r:List UInt8} (h:RdI l (j+1) L r false) {zid:Nat} {fr to:List UInt8} {owner epoch pend tt:Nat} {key:List UInt8} {nw:Nat} {r1:List UInt8} {b1:Bool} {r2:List UInt8} {b2:Bool} {r3:List UInt8} {b3:Bool} {r4:List UInt8} {b4:Bool} {r5:List UInt8} {b5:Bool} {r6:List UInt8} {b6:Bool}
 (z:ZIs r false zid fr to owner epoch pend tt key nw r1 b1 r2 b2 r3 b3 r4 b4 r5 b5 r6 b6):RdI l j (L++[⟨zid,txt fr,txt to,owner,epoch,pend,tt,txt key,nw⟩]) r6 b6:=by
 have hg:=h.good rfl
 refine ⟨?_,fun hb=>?_,by simp;omega,Nat.le_trans z.l6 h.left,fun y hy=>?_⟩
 ·rw [h.all]
  have:rdZs (j+1) (r,false)=(rdZ (r,false)::(rdZs j (s6 (r,false))).1,(rdZs j (s6 (r,false))).2):=by
   rw [rdZs_succ,if_neg (by simp)]
  rw [this,z.rd,z.st]
  simp
 ·have h6:(s6 (r,false)).2=false:=by rw [z.st];exact hb
  have:=s6_less h6
  rw [z.st] at this
  simp only [List.length_append,List.length_cons,List.length_nil] at this ⊢
  omega
 ·rcases List.mem_append.1 hy with hy | hy
  ·exact h.sz y hy
  ·obtain rfl:=List.mem_singleton.1 hy
   simp only [txt_size]
   have:=z.k1;have:=z.k2;have:=z.k3;have:=z.nb;have:=h.left
   omega
theorem RdI.done {l:List UInt8} {j:Nat} {L:List Zn} {r:List UInt8} {b:Bool} (h:RdI l j L r b) (he:j=0∨b=true):decM l=(⟨rdVal l false 0,rdVal l false 1,L⟩,r,b):=by
 have e:rdZs j (r,b)=([],r,b):=by
  rcases he with rfl | rfl
  ·rfl
  ·cases j with
   | zero=>rfl
   | succ j=>rw [rdZs_succ,if_pos rfl]
 unfold decM
 rw [h.all,e]
 simp
end Go.Proofs.Ytogamdaomdoapaa.O
namespace Go.Proofs.Ytogamdaomdoapaa.O
def cntN (l:List Zn) (n:Int):Nat:=(l.filter fun z=>z.nw==n).length
theorem cnt_append (a b:List Zn) (n:Int):cntN (a++b) n=cntN a n+cntN b n:=by simp [cntN]
theorem cnt_pos {l:List Zn} {n:Int} {z:Zn} (h:z∈l) (hz:z.nw=n):0<cntN l n:=by
 unfold cntN
 exact List.length_pos_iff_exists_mem.2 ⟨z,List.mem_filter.2 ⟨h,by simpa using hz⟩⟩
theorem cnt_zero {l:List Zn} {n:Int} (h:∀ z∈l,z.nw≠n):cntN l n=0:=by
 unfold cntN
 rw [List.length_eq_zero_iff,List.filter_eq_nil_iff]
 intro z hz
 simpa using h z hz
theorem cnt_lt {l:List Zn} {n:Int} {i k:Nat} (hi:i<l.length) (hk:k<l.length) (hik:i<k) (h1:l[i].nw=n) (h2:l[k].nw=n):2≤cntN l n:=by
 have e:=cnt_append (l.take k) (l.drop k) n
 rw [List.take_append_drop] at e
 have a:=cnt_pos (l:=l.take k) (n:=n) (z:=l[i]) (List.mem_take_iff_getElem.2 ⟨i,by omega,rfl⟩) h1
 have b:=cnt_pos (l:=l.drop k) (n:=n) (z:=l[k]) (by rw [List.drop_eq_getElem_cons hk];exact List.mem_cons_self) h2
 omega
theorem cnt_uniq {l:List Zn} {n:Int} {i k:Nat} (h:cntN l n=1) (hi:i<l.length) (hk:k<l.length) (h1:l[i].nw=n) (h2:l[k].nw=n):i=k:=by
 rcases Nat.lt_trichotomy i k with c | c | c
 ·have:=cnt_lt hi hk c h1 h2;omega
 ·exact c
 ·have:=cnt_lt hk hi c h2 h1;omega
theorem cnt_one {l:List Zn} {n:Int} {i:Nat} (hi:i<l.length) (h1:l[i].nw=n) (h:∀ k (hk:k<l.length),k≠i→l[k].nw≠n):cntN l n=1:=by
 have e:=cnt_append (l.take i) (l.drop i) n
 rw [List.take_append_drop,List.drop_eq_getElem_cons hi] at e
 have a:cntN (l.take i) n=0:=cnt_zero fun z hz=>by
  obtain ⟨j,hj,rfl⟩:=List.mem_take_iff_getElem.1 hz
  exact h j (by omega) (by omega)
 have b:cntN (l.drop (i+1)) n=0:=cnt_zero fun z hz=>by
  obtain ⟨j,hj,rfl⟩:=List.mem_iff_getElem.1 hz
  rw [List.getElem_drop]
  exact h _ _ (by omega)
 have c:cntN (l[i]::l.drop (i+1)) n=1+cntN (l.drop (i+1)) n:=by
  unfold cntN
  rw [List.filter_cons_of_pos (by simpa using h1)]
  simp;omega
 omega
def fcnt (l:List Zn) (x:Int):Int:=if x=0 then 0 else (cntN l x:Nat)
theorem fcnt_one {l:List Zn} {n:Int} (h:fcnt l n=1):cntN l n=1:=by
 unfold fcnt at h
 split at h<;>omega
def pSplit (m:Mp) (z:Zn):Bool:=cutOk z.fr z.to z.key&&(decide (z.tt=0∧1≤z.nw∧z.nw<m.next)&&(decide (fcnt m.zs z.nw=1)&&(findZ m.zs z.nw).isNone))
def pKind (m:Mp) (i:Nat) (z:Zn):Bool:=if z.pend=0 then decide (z.tt=0∧z.key.toList=[]∧z.nw=0) else if z.pend=3 then decide (1≤z.tt∧z.tt≤1048576∧z.tt≠z.owner∧z.key.toList=[]∧z.nw=0) else if z.pend=1 then pSplit m z else if z.pend=2 then (mergesB m.zs i z&&decide (fcnt m.zs z.nw=1)) else false
def pZone (m:Mp) (i:Nat) (z:Zn):Bool:=headB m i z&&pKind m i z
def pHead (m:Mp):Bool:=decide (1≤m.ver∧m.ver≤1099511627776∧1≤m.next∧m.next≤1099511627776∧1≤m.zs.length∧m.zs.length≤16)
def pAll (m:Mp):Bool:=(List.range m.zs.length).all fun i=>pZone m i (m.zs.getD i zq)
def pMay (m:Mp):Bool:=pHead m&&(sAll (m.zs.map spz)&&pAll m)
theorem getD_at {l:List Zn} {i:Nat} (h:i<l.length):l.getD i zq=l[i]:=by simp [h]
theorem pKind_of {m:Mp} {i:Nat} (hi:i<m.zs.length) (h:pKind m i m.zs[i]=true):kindB m i m.zs[i]=true:=by
 unfold pKind at h
 unfold kindB
 split at h
 ·rename_i p;rw [if_pos p];exact h
 ·rename_i p0
  rw [if_neg p0]
  split at h
  ·rename_i p;rw [if_pos p];exact h
  ·rename_i p3
   rw [if_neg p3]
   split at h
   ·rename_i p1
    rw [if_pos p1]
    unfold pSplit at h
    simp only [Bool.and_eq_true,decide_eq_true_eq] at h
    obtain ⟨h1,h2,h3,h4⟩:=h
    unfold splitsB
    rw [h1,h4,decide_eq_true h2,clash_end (fun k hk hki hp hn=>hki (cnt_uniq (fcnt_one h3) hk hi hn rfl))]
    rfl
   ·rename_i p1
    rw [if_neg p1]
    split at h
    ·rename_i p2
     rw [if_pos p2]
     exact (Bool.and_eq_true _ _▸h:_∧_).1
    ·cases h
theorem zone_at {m:Mp} (h:(List.range m.zs.length).all (fun i=>zoneB m i (m.zs.getD i zq))=true) {i:Nat} (hi:i<m.zs.length):headB m i m.zs[i]=true∧kindB m i m.zs[i]=true:=by
 have:=List.all_eq_true.1 h i (by simpa using hi)
 rw [getD_at hi] at this
 unfold zoneB at this
 exact Bool.and_eq_true _ _▸this
theorem head_find {m:Mp} {i:Nat} {z:Zn} (h:headB m i z=true):1≤z.id∧findZ m.zs z.id=some i:=by
 unfold headB at h
 rw [decide_eq_true_eq] at h
 exact ⟨h.1,h.2.2.1⟩
theorem nw_of {m:Mp} (h:(List.range m.zs.length).all (fun i=>zoneB m i (m.zs.getD i zq))=true) {i:Nat} (hi:i<m.zs.length) (hp:m.zs[i].pend=1∨m.zs[i].pend=2):m.zs[i].nw≠0:=by
 obtain ⟨a1,a2⟩:=zone_at h hi
 unfold kindB at a2
 rcases hp with hp | hp
 ·rw [if_neg (by omega),if_neg (by omega),if_pos hp] at a2
  unfold splitsB at a2
  simp only [Bool.and_eq_true,decide_eq_true_eq] at a2
  omega
 ·rw [if_neg (by omega),if_neg (by omega),if_neg (by omega),if_pos hp] at a2
  unfold mergesB at a2
  cases hf:findZ m.zs m.zs[i].nw with
  | none=>rw [hf] at a2;cases a2
  | some j =>
   obtain ⟨y,hy,hyid,-⟩:=find_some hf
   obtain ⟨hjl,hje⟩:=List.getElem?_eq_some_iff.1 hy
   have:=(head_find (zone_at h hjl).1).1
   rw [hje,hyid] at this
   omega
theorem cnt_of {m:Mp} (h:(List.range m.zs.length).all (fun i=>zoneB m i (m.zs.getD i zq))=true) {i:Nat} (hi:i<m.zs.length) (hp:m.zs[i].pend=1∨m.zs[i].pend=2):cntN m.zs m.zs[i].nw=1:=by
 obtain ⟨a1,a2⟩:=zone_at h hi
 refine cnt_one hi rfl fun k hk hki hn=>?_
 obtain ⟨b1,b2⟩:=zone_at h hk
 unfold kindB at a2 b2
 rcases hp with hp | hp
 ·rw [if_neg (by omega),if_neg (by omega),if_pos hp] at a2
  unfold splitsB at a2
  simp only [Bool.and_eq_true,decide_eq_true_eq,Bool.not_eq_true'] at a2
  obtain ⟨-,⟨-,h2,-⟩,h3,h4⟩:=a2
  split at b2
  ·rw [decide_eq_true_eq] at b2;omega
  ·split at b2
   ·rw [decide_eq_true_eq] at b2;omega
   ·split at b2
    ·rename_i q
     rw [clash_hit hk hki q hn] at h4
     cases h4
    ·split at b2
     ·unfold mergesB at b2
      rw [hn] at b2
      cases hf:findZ m.zs m.zs[i].nw with
      | none=>rw [hf] at b2;cases b2
      | some j=>rw [hf] at h3;cases h3
     ·cases b2
 ·rw [if_neg (by omega),if_neg (by omega),if_neg (by omega),if_pos hp] at a2
  unfold mergesB at a2
  cases hf:findZ m.zs m.zs[i].nw with
  | none=>rw [hf] at a2;cases a2
  | some j =>
   rw [hf] at a2
   simp only [Bool.and_eq_true,decide_eq_true_eq] at a2
   obtain ⟨-,-,h6,-⟩:=a2
   obtain ⟨y,hy,hyid,-⟩:=find_some hf
   obtain ⟨hjl,hje⟩:=List.getElem?_eq_some_iff.1 hy
   obtain ⟨c1,-⟩:=zone_at h hjl
   have hn0:1≤m.zs[i].nw:=by
    have:=(head_find c1).1
    rw [hje,hyid] at this
    exact this
   split at b2
   ·rw [decide_eq_true_eq] at b2;omega
   ·split at b2
    ·rw [decide_eq_true_eq] at b2;omega
    ·split at b2
     ·unfold splitsB at b2
      rw [hn,hf] at b2
      simp at b2
     ·split at b2
      ·unfold mergesB at b2
       rw [hn,hf] at b2
       simp only [Bool.and_eq_true,decide_eq_true_eq] at b2
       have e:m.zs[i].id=m.zs[k].id:=h6.symm.trans b2.2.2.1
       have f1:=(head_find a1).2
       rw [e,(head_find b1).2] at f1
       exact hki (Option.some.inj f1)
      ·cases b2
theorem pKind_mk {m:Mp} (h:(List.range m.zs.length).all (fun i=>zoneB m i (m.zs.getD i zq))=true) {i:Nat} (hi:i<m.zs.length):pKind m i m.zs[i]=true:=by
 obtain ⟨a1,a2⟩:=zone_at h hi
 have hc:m.zs[i].pend=1∨m.zs[i].pend=2→fcnt m.zs m.zs[i].nw=1:=fun hp=>by
  have h1:=cnt_of h hi hp
  have h2:=nw_of h hi hp
  unfold fcnt
  rw [if_neg h2]
  omega
 unfold pKind
 unfold kindB at a2
 split
 ·rename_i p;rw [if_pos p] at a2;exact a2
 ·rename_i p0
  rw [if_neg p0] at a2
  split
  ·rename_i p;rw [if_pos p] at a2;exact a2
  ·rename_i p3
   rw [if_neg p3] at a2
   split
   ·rename_i p1
    rw [if_pos p1] at a2
    unfold splitsB at a2
    simp only [Bool.and_eq_true,decide_eq_true_eq] at a2
    unfold pSplit
    rw [a2.1,decide_eq_true a2.2.1,a2.2.2.1,decide_eq_true (hc (.inl p1))]
    rfl
   ·rename_i p1
    rw [if_neg p1] at a2
    split
    ·rename_i p2
     rw [if_pos p2] at a2
     rw [a2,decide_eq_true (hc (.inr p2))]
     rfl
    ·rename_i p2
     rw [if_neg p2] at a2
     exact a2
theorem pMay_eq (m:Mp):pMay m=mayM m:=by
 rw [Bool.eq_iff_iff]
 unfold pMay pHead pAll mayM
 simp only [Bool.and_eq_true,decide_eq_true_eq]
 constructor
 ·rintro ⟨⟨h1,h2,h3,h4,-,h6⟩,h7,h8⟩
  refine ⟨⟨h1,h2,h3,h4,h6⟩,?_,by rw [←all_same];exact h7⟩
  rw [List.all_eq_true] at h8 ⊢
  intro i hi
  have hi2:i<m.zs.length:=by simpa using hi
  have:=h8 i hi
  rw [getD_at hi2] at this ⊢
  unfold pZone at this
  unfold zoneB
  rw [Bool.and_eq_true] at this ⊢
  exact ⟨this.1,pKind_of hi2 this.2⟩
 ·rintro ⟨⟨h1,h2,h3,h4,h5⟩,h6,h7⟩
  refine ⟨⟨h1,h2,h3,h4,?_,h5⟩,by rw [all_same];exact h7,?_⟩
  ·rcases Nat.eq_zero_or_pos m.zs.length with h0 | h0
   ·rw [List.length_eq_zero_iff.1 h0] at h7;cases h7
   ·exact h0
  ·have h6':=h6
   rw [List.all_eq_true]
   intro i hi
   have hi2:i<m.zs.length:=by simpa using hi
   rw [getD_at hi2]
   unfold pZone
   rw [Bool.and_eq_true]
   exact ⟨(zone_at h6 hi2).1,pKind_mk h6' hi2⟩
end Go.Proofs.Ytogamdaomdoapaa.O