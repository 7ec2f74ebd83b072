/- Texts put together: PlainTwo, PartsPlain, DirP, DirQ, RMp. -/
import Derived.Test.YtogamdaomdoapaaZa01
namespace Go.Proofs.Ytogamdaomdoapaa
abbrev Sp:=ByteArray × ByteArray
def sGo (a:Sp):List Sp→Option Sp
 | []=>some a
 | s::r=>if joinOk a.1 a.2 s.1 s.2 then sGo (a.1,s.2) r else none
def endB (a:Sp):Bool:=isB a.1 a.2&&(a.1.toList.isEmpty&&a.2.toList.isEmpty)
def sAll:List Sp→Bool
 | []=>false
 | s::r=>match sGo s r with
  | none=>false
  | some a=>endB a
def rGo (atB:List UInt8):List Sp→Option (List UInt8)
 | []=>some atB
 | s::r=>if isB s.1 s.2&&(s.1.toList==atB)&&!atB.isEmpty then rGo s.2.toList r else none
def finR:Option (List UInt8)→Bool
 | none=>false
 | some e=>e.isEmpty
def rAll:List Sp→Bool
 | []=>false
 | s::r=>if isB s.1 s.2&&s.1.toList.isEmpty then finR (rGo s.2.toList r) else false
theorem joinOk_iff (f t f' t':ByteArray):joinOk f t f' t'=true↔isB f t=true∧isB f' t'=true∧t.toList≠[]∧t.toList=f'.toList:=by
 simp [joinOk,and_assoc]
theorem isB_from {f g t:ByteArray} (h:isB g t=true) (hf:f.toList=[]):isB f t=true:=by
 rw [isB_iff] at *
 refine ⟨?_,h.2.1,?_⟩
 ·have:f.size=0:=by
   rw [ByteArray.toList_eq] at hf
   show f.data.size=0
   rw [←Array.length_toList,hf];rfl
  omega
 ·rcases h.2.2 with h | h
  ·exact .inl h
  ·right
   rw [hf]
   exact bl_of_nil fun e=>by rw [e,bl_nil] at h;cases h
theorem sGo_rGo (f t:ByteArray) (r:List Sp) (hf:f.toList=[]) (h:isB f t=true) :
 (match sGo (f,t) r with | none=>false | some a=>endB a)=finR (rGo t.toList r):=by
 induction r generalizing t with
 | nil=>simp [sGo,rGo,finR,endB,h,hf]
 | cons s r ih =>
  simp only [sGo,rGo]
  have e:joinOk f t s.1 s.2=(isB s.1 s.2&&(s.1.toList==t.toList)&&!t.toList.isEmpty):=by
   rw [Bool.eq_iff_iff,joinOk_iff]
   simp only [h,true_and,Bool.and_eq_true,beq_iff_eq,Bool.not_eq_true',List.isEmpty_eq_false_iff]
   constructor
   ·rintro ⟨a,b,c⟩;exact ⟨⟨a,c.symm⟩,b⟩
   ·rintro ⟨⟨a,c⟩,b⟩;exact ⟨a,b,c.symm⟩
  rw [e]
  by_cases hc:(isB s.1 s.2&&(s.1.toList==t.toList)&&!t.toList.isEmpty)=true
  ·rw [if_pos hc,if_pos hc]
   simp only [Bool.and_eq_true] at hc
   exact ih s.2 (isB_from hc.1.1 hf)
  ·rw [if_neg hc,if_neg hc];rfl
theorem sGo_none (f t:ByteArray) (r:List Sp) (hf:f.toList≠[]):(match sGo (f,t) r with | none=>false | some a=>endB a)=false:=by
 induction r generalizing t with
 | nil=>simp [sGo,endB,hf]
 | cons s r ih =>
  simp only [sGo]
  by_cases hc:joinOk f t s.1 s.2=true
  ·rw [if_pos hc];exact ih s.2
  ·rw [if_neg hc]
theorem sGo_bad (f t:ByteArray) (r:List Sp) (h:isB f t=false):(match sGo (f,t) r with | none=>false | some a=>endB a)=false:=by
 cases r with
 | nil=>simp [sGo,endB,h]
 | cons s r =>
  have:joinOk f t s.1 s.2=false:=by simp [joinOk,h]
  simp [sGo,this]
theorem all_same (l:List Sp):sAll l=rAll l:=by
 cases l with
 | nil=>rfl
 | cons s r =>
  obtain ⟨s1,s2⟩:=s
  show (match sGo (s1,s2) r with | none=>false | some a=>endB a)=(if isB s1 s2&&s1.toList.isEmpty then finR (rGo s2.toList r) else false)
  by_cases hf:s1.toList=[]
  ·cases h:isB s1 s2 with
   | false=>rw [sGo_bad s1 s2 r h];simp
   | true=>rw [sGo_rGo s1 s2 r hf h];simp [hf]
  ·rw [sGo_none s1 s2 r hf];simp [hf]
end Go.Proofs.Ytogamdaomdoapaa
namespace Go.Proofs.Ytogamdaomdoapaa
def Chain (f:List UInt8):List Sp→Prop
 | []=>False
 | s::r=>s.1.toList=f∧isB s.1 s.2=true∧((r=[]∧s.2.toList=[])∨(s.2.toList≠[]∧Chain s.2.toList r))
theorem chain_fin {s:Sp} {r:List Sp} (h:(r=[]∧s.2.toList=[])∨(s.2.toList≠[]∧Chain s.2.toList r)):finR (rGo s.2.toList r)=true:=by
 induction r generalizing s with
 | nil =>
  rcases h with ⟨-,h⟩ | ⟨-,h⟩
  ·simp [rGo,finR,h]
  ·exact h.elim
 | cons t r ih =>
  rcases h with ⟨h,-⟩ | ⟨h1,h2,h3,h4⟩
  ·cases h
  ·have:(isB t.1 t.2&&(t.1.toList==s.2.toList)&&!s.2.toList.isEmpty)=true:=by simp [h3,h2,h1]
   simp only [rGo,this,if_true]
   exact ih h4
theorem chain_all {l:List Sp} (h:Chain [] l):sAll l=true:=by
 rw [all_same]
 cases l with
 | nil=>exact h.elim
 | cons s r =>
  obtain ⟨h1,h2,h3⟩:=h
  simp only [rAll,h1,h2]
  simpa using chain_fin h3
end Go.Proofs.Ytogamdaomdoapaa
namespace Go.Proofs.Ytogamdaomdoapaa
structure Zn where
 id:Int
 fr:ByteArray
 to:ByteArray
 owner:Int
 epoch:Int
 pend:Int
 tt:Int
 key:ByteArray
 nw:Int
deriving DecidableEq
structure Ch where
 kind:Int
 zone:Int
 epoch:Int
 tt:Int
 key:ByteArray
structure Mp where
 ver:Int
 next:Int
 zs:List Zn
def z0:ByteArray:=⟨#[]⟩
def mayC (c:Ch):Bool:=decide (1≤c.zone∧c.zone≤1099511627776) &&
 (if c.kind=1 then decide (1≤c.key.size∧c.key.size≤16∧c.epoch=0∧c.tt=0)
 else if c.kind=2 then decide (c.epoch=0∧c.tt=0∧c.key.toList=[])
 else if c.kind=3 then decide (1≤c.tt∧c.tt≤1048576∧c.epoch=0∧c.key.toList=[])
 else if c.kind=4∨c.kind=5 then decide (1≤c.epoch∧c.epoch≤1099511627776∧c.tt=0∧c.key.toList=[])
 else false)
def findZ (l:List Zn) (id:Int):Option Nat:=l.findIdx? fun z=>z.id==id
def pendN (k:Int) (l:List Zn):Nat:=(l.filter fun z=>z.pend==k).length
def spz (z:Zn):Sp:=(z.fr,z.to)
def numsZ (z:Zn):List Int:=if z.pend=1 then [z.id,z.nw] else [z.id]
def nums (l:List Zn):List Int:=l.flatMap numsZ
theorem nums_append (a b:List Zn):nums (a++b)=nums a++nums b:=by simp [nums]
theorem nums_cons (a:Zn) (b:List Zn):nums (a::b)=numsZ a++nums b:=by simp [nums]
theorem id_mem {l:List Zn} {z:Zn} (h:z∈l):z.id∈nums l:=by
 simp only [nums,List.mem_flatMap]
 refine ⟨z,h,?_⟩
 unfold numsZ;split<;>simp
theorem nw_mem {l:List Zn} {z:Zn} (h:z∈l) (hp:z.pend=1):z.nw∈nums l:=by
 simp only [nums,List.mem_flatMap]
 refine ⟨z,h,?_⟩
 simp [numsZ,hp]
theorem nums_length (l:List Zn):(nums l).length=l.length+pendN 1 l:=by
 induction l with
 | nil=>rfl
 | cons z r ih =>
  rw [nums_cons,List.length_append,ih]
  unfold numsZ pendN
  by_cases h:z.pend=1
  ·simp [h];omega
  ·simp [h];omega
def Pair (a b:Zn):Prop:=a.pend=2∧b.pend=2∧a.nw=b.id∧b.nw=a.id∧a.owner=b.owner
inductive Pairs:List Zn→Prop
 | nil:Pairs []
 | one {z:Zn} {r:List Zn}:z.pend≠2→Pairs r→Pairs (z::r)
 | two {a b:Zn} {r:List Zn}:Pair a b→Pairs r→Pairs (a::b::r)
theorem Pairs.append {l r:List Zn} (h:Pairs l) (k:Pairs r):Pairs (l++r):=by
 induction h with
 | nil=>exact k
 | one hz _ ih=>exact .one hz ih
 | two hp _ ih=>exact .two hp ih
theorem Pairs.mate {A B:List Zn} {z:Zn} (h:Pairs (A++z::B)) (hz:z.pend=2):(∃ b R,B=b::R∧Pair z b∧Pairs A∧Pairs R)∨(∃ Q a,A=Q++[a]∧Pair a z∧Pairs Q∧Pairs B):=by
 generalize hl:A++z::B=l at h
 induction h generalizing A with
 | nil=>simp at hl
 | @one y r hy hr ih =>
  cases A with
  | nil=>simp only [List.nil_append,List.cons.injEq] at hl;obtain ⟨rfl,rfl⟩:=hl;exact absurd hz hy
  | cons a A =>
   simp only [List.cons_append,List.cons.injEq] at hl
   obtain ⟨rfl,hl⟩:=hl
   rcases ih hl with ⟨b,R,e,h1,h2,h3⟩ | ⟨Q,a',e,h1,h2,h3⟩
   ·exact .inl ⟨b,R,e,h1,.one hy h2,h3⟩
   ·exact .inr ⟨a::Q,a',by rw [e];rfl,h1,.one hy h2,h3⟩
 | @two a b r hp hr ih =>
  cases A with
  | nil =>
   simp only [List.nil_append,List.cons.injEq] at hl
   obtain ⟨rfl,rfl⟩:=hl
   exact .inl ⟨b,r,rfl,hp,.nil,hr⟩
  | cons a' A =>
   simp only [List.cons_append,List.cons.injEq] at hl
   obtain ⟨rfl,hl⟩:=hl
   cases A with
   | nil =>
    simp only [List.nil_append,List.cons.injEq] at hl
    obtain ⟨rfl,rfl⟩:=hl
    exact .inr ⟨[],a',rfl,hp,.nil,hr⟩
   | cons b' A =>
    simp only [List.cons_append,List.cons.injEq] at hl
    obtain ⟨rfl,hl⟩:=hl
    rcases ih hl with ⟨b,R,e,h1,h2,h3⟩ | ⟨Q,a,e,h1,h2,h3⟩
    ·exact .inl ⟨b,R,e,h1,.two hp h2,h3⟩
    ·exact .inr ⟨a'::b'::Q,a,by rw [e];rfl,h1,.two hp h2,h3⟩
def ZOk (z:Zn):Prop:=1≤z.owner∧z.owner≤1048576∧1≤z.epoch∧z.epoch≤1099511627776 ∧
 ((z.pend=0∧z.tt=0∧z.key=z0∧z.nw=0)∨(z.pend=3∧1≤z.tt∧z.tt≤1048576∧z.tt≠z.owner∧z.key=z0∧z.nw=0)∨(z.pend=1∧z.tt=0∧cutOk z.fr z.to z.key=true)∨(z.pend=2∧z.tt=0∧z.key=z0))
structure Inv (m:Mp):Prop where
 ver:1≤m.ver∧m.ver≤1099511627776
 next:1≤m.next∧m.next≤1099511627776
 nd:(nums m.zs).Nodup
 lt:∀ n∈nums m.zs,1≤n∧n<m.next
 ok:∀ z∈m.zs,ZOk z
 prs:Pairs m.zs
 chain:Chain [] (m.zs.map spz)
 room:(nums m.zs).length≤16
 moves:pendN 3 m.zs≤2
theorem cut_at {l:List Zn} {i:Nat} {z:Zn} (h:l[i]?=some z):∃ A B,l=A++z::B∧A.length=i:=by
 obtain ⟨hi,rfl⟩:=List.getElem?_eq_some_iff.1 h
 exact ⟨l.take i,l.drop (i+1),by rw [←List.drop_eq_getElem_cons hi,List.take_append_drop],by rw [List.length_take];omega⟩
section
variable {ver next:Int} {A B:List Zn} {z x:Zn}
end
theorem numsZ_split {z:Zn} (h:z.pend=1):numsZ z=[z.id,z.nw]:=by unfold numsZ;rw [if_pos h]
end Go.Proofs.Ytogamdaomdoapaa
namespace Go.Proofs.Ytogamdaomdoapaa
theorem find_mid {A B:List Zn} {z:Zn} {n:Int} (hz:z.id=n) (hA:∀ y∈A,y.id≠n):findZ (A++z::B) n=some A.length:=by
 induction A with
 | nil=>simp [findZ,List.findIdx?_cons,hz]
 | cons a A ih =>
  have h1:(a.id==n)=false:=by rw [beq_eq_false_iff_ne];exact hA a (by simp)
  have h2:=ih (fun y hy=>hA y (by simp [hy]))
  unfold findZ at h2 ⊢
  rw [List.cons_append,List.findIdx?_cons,h1]
  simp [h2]
theorem find_out {l:List Zn} {n:Int} (h:∀ y∈l,y.id≠n):findZ l n=none:=by
 unfold findZ
 rw [List.findIdx?_eq_none_iff]
 intro y hy
 rw [beq_eq_false_iff_ne]
 exact h y hy
theorem find_some {l:List Zn} {n:Int} {i:Nat} (h:findZ l n=some i):∃ z,l[i]?=some z∧z.id=n∧∀ y∈l.take i,y.id≠n:=by
 unfold findZ at h
 rw [List.findIdx?_eq_some_iff_getElem] at h
 obtain ⟨hi,h1,h2⟩:=h
 refine ⟨l[i],List.getElem?_eq_getElem hi,by simpa using h1,fun y hy=>?_⟩
 obtain ⟨j,hj,rfl⟩:=List.mem_iff_getElem.1 hy
 rw [List.length_take] at hj
 rw [List.getElem_take]
 have:=h2 j (by omega)
 simpa using this
theorem Inv.at {m:Mp} (h:Inv m) {i:Nat} {z:Zn} (hi:m.zs[i]?=some z):findZ m.zs z.id=some i:=by
 obtain ⟨A,B,hl,rfl⟩:=cut_at hi
 rw [hl]
 refine find_mid rfl (fun y hy e=>?_)
 have hnd:=h.nd
 rw [hl,nums_append] at hnd
 exact (List.nodup_append.1 hnd).2.2 _ (id_mem hy) _ (id_mem (z:=z) (by simp)) e
theorem Inv.mate {m:Mp} (h:Inv m) {i:Nat} {z:Zn} (hi:m.zs[i]?=some z) (hp:z.pend=2):∃ k y,findZ m.zs z.nw=some k∧m.zs[k]?=some y∧(k=i+1∨k+1=i)∧y.pend=2∧y.nw=z.id∧y.owner=z.owner:=by
 obtain ⟨A,B,hl,rfl⟩:=cut_at hi
 have hm:=h.prs
 rw [hl] at hm
 rcases hm.mate hp with ⟨b,R,rfl,q1,-,-⟩ | ⟨Q,a,rfl,q1,-,-⟩
 ·have hb:m.zs[A.length+1]?=some b:=by
   rw [hl,List.getElem?_append_right (by omega)]
   simp [show A.length+1 - A.length=1 by omega]
  refine ⟨A.length+1,b,?_,hb,.inl rfl,q1.2.1,q1.2.2.2.1,q1.2.2.2.2.symm⟩
  rw [q1.2.2.1]
  exact h.at hb
 ·have ha:m.zs[Q.length]?=some a:=by
   rw [hl];simp
  refine ⟨Q.length,a,?_,ha,.inr (by simp),q1.1,q1.2.2.1,q1.2.2.2.2⟩
  rw [q1.2.2.2.1]
  exact h.at ha
theorem Inv.fresh {m:Mp} (h:Inv m) {i:Nat} {z:Zn} (hi:m.zs[i]?=some z) (hp:z.pend=1):findZ m.zs z.nw=none∧(1≤z.nw∧z.nw<m.next)∧∀ k y,m.zs[k]?=some y→k≠i→y.pend=1→y.nw≠z.nw:=by
 have hz:=List.mem_of_getElem? hi
 refine ⟨find_out fun y hy e=>?_,h.lt _ (nw_mem hz hp),fun k y hk hne hyp e=>?_⟩
 ·obtain ⟨A,B,hl,rfl⟩:=cut_at hi
  have hnd:=h.nd
  rw [hl,nums_append,nums_cons,numsZ_split hp] at hnd
  rw [hl] at hy
  have h1:=List.nodup_append.1 hnd
  have h2:=List.nodup_append.1 h1.2.1
  rw [List.mem_append,List.mem_cons] at hy
  rcases hy with hy | rfl | hy
  ·exact h1.2.2 _ (id_mem hy) z.nw (by simp) e
  ·have:=h2.1
   simp [e] at this
  ·exact h2.2.2 z.nw (by simp) _ (id_mem hy) e.symm
 ·obtain ⟨A,B,hl,rfl⟩:=cut_at hi
  have hnd:=h.nd
  rw [hl,nums_append,nums_cons,numsZ_split hp] at hnd
  have h1:=List.nodup_append.1 hnd
  have h2:=List.nodup_append.1 h1.2.1
  rw [hl] at hk
  rcases Nat.lt_or_ge k A.length with hlt | hge
  ·rw [List.getElem?_append_left hlt] at hk
   exact h1.2.2 _ (nw_mem (List.mem_of_getElem? hk) hyp) z.nw (by simp) e
  ·rw [List.getElem?_append_right hge] at hk
   obtain ⟨j,hj⟩:∃ j,k - A.length=j+1:=⟨k - A.length - 1,by omega⟩
   rw [hj,List.getElem?_cons_succ] at hk
   exact h2.2.2 z.nw (by simp) _ (nw_mem (List.mem_of_getElem? hk) hyp) e.symm
theorem Inv.all {m:Mp} (h:Inv m):sAll (m.zs.map spz)=true:=chain_all h.chain
theorem Inv.pos {m:Mp} (h:Inv m):0<m.zs.length:=by
 have:=h.chain
 cases hz:m.zs with
 | nil=>rw [hz] at this;exact this.elim
 | cons a r=>simp
theorem Inv.len {m:Mp} (h:Inv m):m.zs.length≤16:=by have:=h.room;rw [nums_length] at this;omega
end Go.Proofs.Ytogamdaomdoapaa
namespace Go.Proofs.Ytogamdaomdoapaa
def zq:Zn:=⟨0,z0,z0,0,0,0,0,z0,0⟩
def clashB (l:List Zn) (i:Nat) (n:Int):Bool:=(List.range l.length).any fun k=>decide (k≠i)&&((l.getD k zq).pend==1&&(l.getD k zq).nw==n)
def splitsB (m:Mp) (i:Nat) (z:Zn):Bool:=cutOk z.fr z.to z.key&&(decide (z.tt=0∧1≤z.nw∧z.nw<m.next)&&((findZ m.zs z.nw).isNone&&!clashB m.zs i z.nw))
def mergesB (l:List Zn) (i:Nat) (z:Zn):Bool:=match findZ l z.nw with
 | none=>false
 | some k=>decide (z.tt=0∧z.key.toList=[]∧(k=i+1∨k+1=i))&&decide ((l.getD k zq).pend=2∧(l.getD k zq).nw=z.id∧(l.getD k zq).owner=z.owner)
def headB (m:Mp) (i:Nat) (z:Zn):Bool:=decide (1≤z.id∧z.id<m.next∧findZ m.zs z.id=some i∧1≤z.owner∧z.owner≤1048576∧1≤z.epoch∧z.epoch≤1099511627776)
def kindB (m:Mp) (i:Nat) (z:Zn):Bool:=if z.pend=0 then decide (z.tt=0∧z.key.toList=[]∧z.nw=0) else if z.pend=3 then decide (1≤z.tt∧z.tt≤1048576∧z.tt≠z.owner∧z.key.toList=[]∧z.nw=0) else if z.pend=1 then splitsB m i z else if z.pend=2 then mergesB m.zs i z else false
def zoneB (m:Mp) (i:Nat) (z:Zn):Bool:=headB m i z&&kindB m i z
def mayM (m:Mp):Bool:=decide (1≤m.ver∧m.ver≤1099511627776∧1≤m.next∧m.next≤1099511627776∧m.zs.length≤16)&&(((List.range m.zs.length).all fun i=>zoneB m i (m.zs.getD i zq))&&rAll (m.zs.map spz))
theorem clash_hit {l:List Zn} {i k:Nat} {n:Int} (h:k<l.length) (hk:k≠i) (h1:l[k].pend=1) (h2:l[k].nw=n):clashB l i n=true:=by
 unfold clashB
 rw [List.any_eq_true]
 exact ⟨k,by simpa using h,by simp [h,hk,h1,h2]⟩
theorem clash_end {l:List Zn} {i:Nat} {n:Int} (h:∀ k (hk:k<l.length),k≠i→l[k].pend=1→l[k].nw≠n):clashB l i n=false:=by
 unfold clashB
 rw [List.any_eq_false]
 intro k hk
 have hk:k<l.length:=by simpa using hk
 have:=h k hk
 simp only [List.getD_eq_getElem?_getD,List.getElem?_eq_getElem hk,Option.getD_some]
 simpa using this
theorem z0_toList:z0.toList=[]:=by simp [z0]
theorem Inv.zoneB {m:Mp} (h:Inv m) {i:Nat} {z:Zn} (hi:m.zs[i]?=some z):zoneB m i z=true:=by
 have hz:=List.mem_of_getElem? hi
 obtain ⟨o1,o2,o3,o4,o5⟩:=h.ok z hz
 have hid:=h.lt _ (id_mem hz)
 have hf:=h.at hi
 unfold Go.Proofs.Ytogamdaomdoapaa.zoneB
 rw [Bool.and_eq_true]
 refine ⟨by unfold headB;rw [decide_eq_true_eq];exact ⟨hid.1,hid.2,hf,o1,o2,o3,o4⟩,?_⟩
 unfold kindB
 rcases o5 with ⟨p,q1,q2,q3⟩ | ⟨p,q1,q2,q3,q4,q5⟩ | ⟨p,q1,q2⟩ | ⟨p,q1,q2⟩
 ·rw [if_pos p,decide_eq_true_eq,q2];exact ⟨q1,z0_toList,q3⟩
 ·rw [if_neg (by omega),if_pos p,decide_eq_true_eq,q4];exact ⟨q1,q2,q3,z0_toList,q5⟩
 ·rw [if_neg (by omega),if_neg (by omega),if_pos p]
  obtain ⟨f1,f2,f3⟩:=h.fresh hi p
  unfold splitsB
  rw [q2,f1,clash_end (fun k hk hki hp=>f3 k _ (List.getElem?_eq_getElem hk) hki hp)]
  simp [q1,f2.1,f2.2]
 ·rw [if_neg (by omega),if_neg (by omega),if_neg (by omega),if_pos p]
  obtain ⟨k,y,m1,m2,m3,m4,m5,m6⟩:=h.mate hi p
  unfold mergesB
  rw [m1]
  simp only [List.getD_eq_getElem?_getD,m2,Option.getD_some]
  rw [Bool.and_eq_true,decide_eq_true_eq,decide_eq_true_eq,q2]
  exact ⟨⟨q1,z0_toList,m3⟩,m4,m5,m6⟩
theorem Inv.mayM {m:Mp} (h:Inv m):mayM m=true:=by
 unfold Go.Proofs.Ytogamdaomdoapaa.mayM
 rw [Bool.and_eq_true,Bool.and_eq_true,decide_eq_true_eq,List.all_eq_true]
 refine ⟨⟨h.ver.1,h.ver.2,h.next.1,h.next.2,h.len⟩,fun i hi=>?_,by rw [←all_same];exact h.all⟩
 have hi:i<m.zs.length:=by simpa using hi
 rw [List.getD_eq_getElem?_getD,List.getElem?_eq_getElem hi]
 exact h.zoneB (List.getElem?_eq_getElem hi)
end Go.Proofs.Ytogamdaomdoapaa