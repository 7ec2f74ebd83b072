/- Texts put together: OMp, OCn. -/
import Derived.Test.YtogamdaomdoapaaGreatSa08
import Derived.Test.YtogamdaomdoapaaGreatSa09
import Derived.Maps.Own
import Derived.Maps.OwnOps
import Derived.Maps.Views
namespace Go.Proofs.YtogamdaomdoapaaGreat.O
def cntN (l:List Zn) (n:Int):Nat:=(l.filter fun z=>z.nw==n).length
theorem cnt_append (a b:List Zn) (n:Int):cntN (a++b) n=cntN a n+cntN b n:=by simp [cntN]
theorem cnt_pos {l:List Zn} {n:Int} {z:Zn} (h:z∈l) (hz:z.nw=n):0<cntN l n:=by
 unfold cntN
 exact List.length_pos_iff_exists_mem.2 ⟨z,List.mem_filter.2 ⟨h,by simpa using hz⟩⟩
theorem cnt_zero {l:List Zn} {n:Int} (h:∀ z∈l,z.nw≠n):cntN l n=0:=by
 unfold cntN
 rw [List.length_eq_zero_iff,List.filter_eq_nil_iff]
 intro z hz
 simpa using h z hz
theorem cnt_lt {l:List Zn} {n:Int} {i k:Nat} (hi:i<l.length) (hk:k<l.length) (hik:i<k) (h1:l[i].nw=n) (h2:l[k].nw=n):2≤cntN l n:=by
 have e:=cnt_append (l.take k) (l.drop k) n
 rw [List.take_append_drop] at e
 have a:=cnt_pos (l:=l.take k) (n:=n) (z:=l[i]) (List.mem_take_iff_getElem.2 ⟨i,by omega,rfl⟩) h1
 have b:=cnt_pos (l:=l.drop k) (n:=n) (z:=l[k]) (by rw [List.drop_eq_getElem_cons hk];exact List.mem_cons_self) h2
 omega
theorem cnt_uniq {l:List Zn} {n:Int} {i k:Nat} (h:cntN l n=1) (hi:i<l.length) (hk:k<l.length) (h1:l[i].nw=n) (h2:l[k].nw=n):i=k:=by
 rcases Nat.lt_trichotomy i k with c | c | c
 ·have:=cnt_lt hi hk c h1 h2;omega
 ·exact c
 ·have:=cnt_lt hk hi c h2 h1;omega
theorem cnt_one {l:List Zn} {n:Int} {i:Nat} (hi:i<l.length) (h1:l[i].nw=n) (h:∀ k (hk:k<l.length),k≠i→l[k].nw≠n):cntN l n=1:=by
 have e:=cnt_append (l.take i) (l.drop i) n
 rw [List.take_append_drop,List.drop_eq_getElem_cons hi] at e
 have a:cntN (l.take i) n=0:=cnt_zero fun z hz=>by
  obtain ⟨j,hj,rfl⟩:=List.mem_take_iff_getElem.1 hz
  exact h j (by omega) (by omega)
 have b:cntN (l.drop (i+1)) n=0:=cnt_zero fun z hz=>by
  obtain ⟨j,hj,rfl⟩:=List.mem_iff_getElem.1 hz
  rw [List.getElem_drop]
  exact h _ _ (by omega)
 have c:cntN (l[i]::l.drop (i+1)) n=1+cntN (l.drop (i+1)) n:=by
  unfold cntN
  rw [List.filter_cons_of_pos (by simpa using h1)]
  simp;omega
 omega
def fcnt (l:List Zn) (x:Int):Int:=if x=0 then 0 else (cntN l x:Nat)
theorem fcnt_one {l:List Zn} {n:Int} (h:fcnt l n=1):cntN l n=1:=by
 unfold fcnt at h
 split at h<;>omega
def pSplit (m:Mp) (z:Zn):Bool:=cutOk z.fr z.to z.key&&(decide (z.tt=0∧1≤z.nw∧z.nw<m.next)&&(decide (fcnt m.zs z.nw=1)&&(findZ m.zs z.nw).isNone))
def pKind (m:Mp) (i:Nat) (z:Zn):Bool:=if z.pend=0 then decide (z.tt=0∧z.key.toList=[]∧z.nw=0) else if z.pend=3 then decide (1≤z.tt∧z.tt≤1048576∧z.tt≠z.owner∧z.key.toList=[]∧z.nw=0) else if z.pend=1 then pSplit m z else if z.pend=2 then (mergesB m.zs i z&&decide (fcnt m.zs z.nw=1)) else false
def pZone (m:Mp) (i:Nat) (z:Zn):Bool:=headB m i z&&pKind m i z
def pHead (m:Mp):Bool:=decide (1≤m.ver∧m.ver≤1099511627776∧1≤m.next∧m.next≤1099511627776∧1≤m.zs.length∧m.zs.length≤16)
def pAll (m:Mp):Bool:=(List.range m.zs.length).all fun i=>pZone m i (m.zs.getD i zq)
def pMay (m:Mp):Bool:=pHead m&&(sAll (m.zs.map spz)&&pAll m)
theorem getD_at {l:List Zn} {i:Nat} (h:i<l.length):l.getD i zq=l[i]:=by simp [h]
theorem pKind_of {m:Mp} {i:Nat} (hi:i<m.zs.length) (h:pKind m i m.zs[i]=true):kindB m i m.zs[i]=true:=by
 unfold pKind at h
 unfold kindB
 split at h
 ·rename_i p;rw [if_pos p];exact h
 ·rename_i p0
  rw [if_neg p0]
  split at h
  ·rename_i p;rw [if_pos p];exact h
  ·rename_i p3
   rw [if_neg p3]
   split at h
   ·rename_i p1
    rw [if_pos p1]
    unfold pSplit at h
    simp only [Bool.and_eq_true,decide_eq_true_eq] at h
    obtain ⟨h1,h2,h3,h4⟩:=h
    unfold splitsB
    rw [h1,h4,decide_eq_true h2,clash_end (fun k hk hki hp hn=>hki (cnt_uniq (fcnt_one h3) hk hi hn rfl))]
    rfl
   ·rename_i p1
    rw [if_neg p1]
    split at h
    ·rename_i p2
     rw [if_pos p2]
     exact (Bool.and_eq_true _ _▸h:_∧_).1
    ·cases h
theorem zone_at {m:Mp} (h:(List.range m.zs.length).all (fun i=>zoneB m i (m.zs.getD i zq))=true) {i:Nat} (hi:i<m.zs.length):headB m i m.zs[i]=true∧kindB m i m.zs[i]=true:=by
 have:=List.all_eq_true.1 h i (by simpa using hi)
 rw [getD_at hi] at this
 unfold zoneB at this
 exact Bool.and_eq_true _ _▸this
theorem head_find {m:Mp} {i:Nat} {z:Zn} (h:headB m i z=true):1≤z.id∧findZ m.zs z.id=some i:=by
 unfold headB at h
 rw [decide_eq_true_eq] at h
 exact ⟨h.1,h.2.2.1⟩
theorem nw_of {m:Mp} (h:(List.range m.zs.length).all (fun i=>zoneB m i (m.zs.getD i zq))=true) {i:Nat} (hi:i<m.zs.length) (hp:m.zs[i].pend=1∨m.zs[i].pend=2):m.zs[i].nw≠0:=by
 obtain ⟨a1,a2⟩:=zone_at h hi
 unfold kindB at a2
 rcases hp with hp | hp
 ·rw [if_neg (by omega),if_neg (by omega),if_pos hp] at a2
  unfold splitsB at a2
  simp only [Bool.and_eq_true,decide_eq_true_eq] at a2
  omega
 ·rw [if_neg (by omega),if_neg (by omega),if_neg (by omega),if_pos hp] at a2
  unfold mergesB at a2
  cases hf:findZ m.zs m.zs[i].nw with
  | none=>rw [hf] at a2;cases a2
  | some j =>
   obtain ⟨y,hy,hyid,-⟩:=find_some hf
   obtain ⟨hjl,hje⟩:=List.getElem?_eq_some_iff.1 hy
   have:=(head_find (zone_at h hjl).1).1
   rw [hje,hyid] at this
   omega
theorem cnt_of {m:Mp} (h:(List.range m.zs.length).all (fun i=>zoneB m i (m.zs.getD i zq))=true) {i:Nat} (hi:i<m.zs.length) (hp:m.zs[i].pend=1∨m.zs[i].pend=2):cntN m.zs m.zs[i].nw=1:=by
 obtain ⟨a1,a2⟩:=zone_at h hi
 refine cnt_one hi rfl fun k hk hki hn=>?_
 obtain ⟨b1,b2⟩:=zone_at h hk
 unfold kindB at a2 b2
 rcases hp with hp | hp
 ·rw [if_neg (by omega),if_neg (by omega),if_pos hp] at a2
  unfold splitsB at a2
  simp only [Bool.and_eq_true,decide_eq_true_eq,Bool.not_eq_true'] at a2
  obtain ⟨-,⟨-,h2,-⟩,h3,h4⟩:=a2
  split at b2
  ·rw [decide_eq_true_eq] at b2;omega
  ·split at b2
   ·rw [decide_eq_true_eq] at b2;omega
   ·split at b2
    ·rename_i q
     rw [clash_hit hk hki q hn] at h4
     cases h4
    ·split at b2
     ·unfold mergesB at b2
      rw [hn] at b2
      cases hf:findZ m.zs m.zs[i].nw with
      | none=>rw [hf] at b2;cases b2
      | some j=>rw [hf] at h3;cases h3
     ·cases b2
 ·rw [if_neg (by omega),if_neg (by omega),if_neg (by omega),if_pos hp] at a2
  unfold mergesB at a2
  cases hf:findZ m.zs m.zs[i].nw with
  | none=>rw [hf] at a2;cases a2
  | some j =>
   rw [hf] at a2
   simp only [Bool.and_eq_true,decide_eq_true_eq] at a2
   obtain ⟨-,-,h6,-⟩:=a2
   obtain ⟨y,hy,hyid,-⟩:=find_some hf
   obtain ⟨hjl,hje⟩:=List.getElem?_eq_some_iff.1 hy
   obtain ⟨c1,-⟩:=zone_at h hjl
   have hn0:1≤m.zs[i].nw:=by
    have:=(head_find c1).1
    rw [hje,hyid] at this
    exact this
   split at b2
   ·rw [decide_eq_true_eq] at b2;omega
   ·split at b2
    ·rw [decide_eq_true_eq] at b2;omega
    ·split at b2
     ·unfold splitsB at b2
      rw [hn,hf] at b2
      simp at b2
     ·split at b2
      ·unfold mergesB at b2
       rw [hn,hf] at b2
       simp only [Bool.and_eq_true,decide_eq_true_eq] at b2
       have e:m.zs[i].id=m.zs[k].id:=h6.symm.trans b2.2.2.1
       have f1:=(head_find a1).2
       rw [e,(head_find b1).2] at f1
       exact hki (Option.some.inj f1)
      ·cases b2
theorem pKind_mk {m:Mp} (h:(List.range m.zs.length).all (fun i=>zoneB m i (m.zs.getD i zq))=true) {i:Nat} (hi:i<m.zs.length):pKind m i m.zs[i]=true:=by
 obtain ⟨a1,a2⟩:=zone_at h hi
 have hc:m.zs[i].pend=1∨m.zs[i].pend=2→fcnt m.zs m.zs[i].nw=1:=fun hp=>by
  have h1:=cnt_of h hi hp
  have h2:=nw_of h hi hp
  unfold fcnt
  rw [if_neg h2]
  omega
 unfold pKind
 unfold kindB at a2
 split
 ·rename_i p;rw [if_pos p] at a2;exact a2
 ·rename_i p0
  rw [if_neg p0] at a2
  split
  ·rename_i p;rw [if_pos p] at a2;exact a2
  ·rename_i p3
   rw [if_neg p3] at a2
   split
   ·rename_i p1
    rw [if_pos p1] at a2
    unfold splitsB at a2
    simp only [Bool.and_eq_true,decide_eq_true_eq] at a2
    unfold pSplit
    rw [a2.1,decide_eq_true a2.2.1,a2.2.2.1,decide_eq_true (hc (.inl p1))]
    rfl
   ·rename_i p1
    rw [if_neg p1] at a2
    split
    ·rename_i p2
     rw [if_pos p2] at a2
     rw [a2,decide_eq_true (hc (.inr p2))]
     rfl
    ·rename_i p2
     rw [if_neg p2] at a2
     exact a2
theorem pMay_eq (m:Mp):pMay m=mayM m:=by
 rw [Bool.eq_iff_iff]
 unfold pMay pHead pAll mayM
 simp only [Bool.and_eq_true,decide_eq_true_eq]
 constructor
 ·rintro ⟨⟨h1,h2,h3,h4,-,h6⟩,h7,h8⟩
  refine ⟨⟨h1,h2,h3,h4,h6⟩,?_,by rw [←all_same];exact h7⟩
  rw [List.all_eq_true] at h8 ⊢
  intro i hi
  have hi2:i<m.zs.length:=by simpa using hi
  have:=h8 i hi
  rw [getD_at hi2] at this ⊢
  unfold pZone at this
  unfold zoneB
  rw [Bool.and_eq_true] at this ⊢
  exact ⟨this.1,pKind_of hi2 this.2⟩
 ·rintro ⟨⟨h1,h2,h3,h4,h5⟩,h6,h7⟩
  refine ⟨⟨h1,h2,h3,h4,?_,h5⟩,by rw [all_same];exact h7,?_⟩
  ·rcases Nat.eq_zero_or_pos m.zs.length with h0 | h0
   ·rw [List.length_eq_zero_iff.1 h0] at h7;cases h7
   ·exact h0
  ·have h6':=h6
   rw [List.all_eq_true]
   intro i hi
   have hi2:i<m.zs.length:=by simpa using hi
   rw [getD_at hi2]
   unfold pZone
   rw [Bool.and_eq_true]
   exact ⟨(zone_at h6 hi2).1,pKind_mk h6' hi2⟩
end Go.Proofs.YtogamdaomdoapaaGreat.O
namespace Go.Proofs.YtogamdaomdoapaaGreat.O
open Go.RowKit Go.Maps
set_option maxRecDepth 20000
theorem keyLaw:Keyed Tryz.prog 3:=int_keyed Tryz.underlying3
theorem zeroInt (w:World):(zeroValue 3).run Tryz.prog w=.ok (.int .i64 0) w:=by kernel_rfl
def CntAt (w:World) (b k:Nat) (f:Int→Int):Prop:=∃ n D,w.ownsMap (H:=Unit) Tryz.prog 3 (plainElem Tryz.prog 3) b n D∧n≤k∧IsMap D∧∀ x,(Lit.int .i64 x).wf=true→D.atKey (.int .i64 x) (.lit (.int .i64 0))=.lit (.int .i64 (f x))
theorem CntAt.look {w:World} {b k:Nat} {f:Int→Int} (h:CntAt w b k f) (x:Int) (hx:(Lit.int .i64 x).wf=true):(Instr.lookup 195 (.map (some b)) (.int .i64 x) false).run Tryz.prog w=.ok (.int .i64 (f x)) w:=by
 obtain ⟨n,D,ho,-,-,hat⟩:=h
 obtain ⟨c,hrun,hc,-⟩:=ho.lookup_int keyLaw Tryz.underlying195 Tryz.underlying3 (zeroInt _) (keyOf_int_mk Tryz.underlying3 hx)
 rw [hat x hx] at hc
 simp only [DataW.lit.injEq,Lit.int.injEq,true_and] at hc
 rw [hrun,hc]
theorem CntAt.lt {w:World} {b k:Nat} {f:Int→Int} (h:CntAt w b k f):b<w.heap.size:=by
 obtain ⟨n,D,ho,-⟩:=h
 exact ho.lt
theorem CntAt.grow {w w':World} {b k:Nat} {f:Int→Int} (h:CntAt w b k f) (hb:Below w.heap.size w w'):CntAt w' b k f:=by
 obtain ⟨n,D,⟨es,clock,h1,h2⟩,r⟩:=h
 exact ⟨n,D,⟨es,clock,(hb.block b (lt_of_block h1)).trans h1,h2⟩,r⟩
theorem CntAt.new (w:World):CntAt (w.alloc (.map #[] 0)) w.heap.size 0 (fun _=>0) :=
 ⟨0,.map [],World.ownsMap_made _ _ _ _,Nat.le_refl _,⟨_,rfl⟩,fun _ _=>rfl⟩
theorem CntAt.mono {w:World} {b k k':Nat} {f:Int→Int} (h:CntAt w b k f) (hk:k≤k'):CntAt w b k' f:=by
 obtain ⟨n,D,h1,h2,r⟩:=h
 exact ⟨n,D,h1,Nat.le_trans h2 hk,r⟩
theorem CntAt.congr {w:World} {b k:Nat} {f g:Int→Int} (h:CntAt w b k f) (hfg:∀ x,f x=g x):CntAt w b k g:=by
 obtain ⟨n,D,h1,h2,h3,h4⟩:=h
 exact ⟨n,D,h1,h2,h3,fun x hx=>by rw [←hfg];exact h4 x hx⟩
def thCnt (b k:Nat) (f:Int→Int):Th where
 T w:=CntAt w b k f
 F x:=x=b
 stay h k hS:=by
  obtain ⟨n,D,⟨es,clock,h1,h2⟩,r⟩:=h
  exact ⟨n,D,⟨es,clock,(k.block b (lt_of_block h1) (hS b rfl)).trans h1,h2⟩,r⟩
 lt h e:=e▸h.lt
theorem CntAt.put {w:World} {b k:Nat} {f:Int→Int} (h:CntAt w b k f) (hk:k≤1000) (x v:Int) (hx:(Lit.int .i64 x).wf=true) (hv:(Lit.int .i64 v).wf=true) :
 ∃ w',(Instr.mapUpdate 195 (.map (some b)) (.int .i64 x) (.int .i64 v)).run Tryz.prog w=.ok () w'∧CntAt w' b (k+1) (fun y=>if y=x then v else f y)∧Keeps w w' (fun z=>z=b):=by
 obtain ⟨n,D,ho,hn,hD,hat⟩:=h
 obtain ⟨w',hrun,r1,r2⟩:=ho.update keyLaw Tryz.underlying195 (by unfold maxLen;omega) (keyOf_int_mk Tryz.underlying3 hx) (plainElem_int Tryz.underlying3 hv)
 refine ⟨w',hrun,⟨n+1,_,r1,by omega,hD.put _ _,fun y hy=>?_⟩,(Keeps.grown r2).weak (fun i _ e=>by cases e;rfl)⟩
 by_cases e:y=x
 ·subst e
  simp only [if_true]
  rw [atKey_put_same hD (show WideAt.IsKeyLit (.int .i64 y) from trivial)]
 ·simp only [e,if_false]
  rw [atKey_put_other (fun h=>e (by simpa using h))]
  exact hat y hy
end Go.Proofs.YtogamdaomdoapaaGreat.O