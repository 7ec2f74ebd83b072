/- Texts put together: WDp, WDb, WDq, WSz. -/
import Derived.Test.YtogamdaomdoapaaGreatSa28
import Derived.Test.YtogamdaomdoapaaGreatSa31
import Derived.Test.YtogamdaomdoapaaGreatSa32
import Derived.Laws.ResultCell
namespace Go.Proofs.YtogamdaomdoapaaGreat
open Go.RowKit
def dE (p:List UInt8):List UInt8 × Bool:=rdSt p false 8
def dF (p:List UInt8):List UInt8 × List UInt8 × Bool:=tookOf (dE p).1 (dE p).2
def dG (p:List UInt8):List UInt8 × List UInt8 × Bool:=tookOf (dF p).2.1 (dF p).2.2
def dK (p:List UInt8):Int:=(rdVal p false 0:Nat)
def dS (p:List UInt8):List UInt8 × Bool:=if dK p=6 then rdSt (dG p).2.1 (dG p).2.2 3 else (dG p).2
def dR (p:List UInt8):List UInt8 × List UInt8 × Bool:=tookOf (dS p).1 (dS p).2
def wholeW (p:List UInt8):Bool:=!(dR p).2.2&&(dR p).2.1.isEmpty
def opD (p:List UInt8):Rq:=if dK p=6 then { rq0 with kind:=(rdVal (dG p).2.1 (dG p).2.2 0:Nat),client:=(rdVal (dG p).2.1 (dG p).2.2 1:Nat),seq:=(rdVal (dG p).2.1 (dG p).2.2 2:Nat) } else rq0
def baseW (p:List UInt8):Wd:=⟨dK p,(rdVal p false 1:Nat),(rdVal p false 2:Nat),(rdVal p false 3:Nat),(rdVal p false 4:Nat),(rdVal p false 5:Nat),(rdVal p false 6:Nat),(rdVal p false 7:Nat),⟨(dF p).1.toArray⟩,⟨(dG p).1.toArray⟩,opD p,zRp,mp0,ch0,[]⟩
def okRest (k:Int) (r:List UInt8):Bool:=if k=3 then O.goodM r else if k=4 then O.goodC r else if k=5 then goodD r else if k=6 then goodP r else true
def withW (d:Wd) (r:List UInt8):Wd :=
 if d.kind=3 then { d with mp:=(O.decM r).1 } else if d.kind=4 then { d with ch:=(O.decC r).1 } else if d.kind=5 then { d with op:=dqQ (decD r) } else if d.kind=6 then { d with rep:=rpOf r } else { d with data:=r }
def wdOf (p:List UInt8):Wd:=withW (baseW p) (dR p).1
theorem three_at {r:List UInt8} {b:Bool} {s:O.Rs} (hs:s=rdSt r b 3) (h:s.2=false):b=false∧r=encN (clampN (rdVal r b 0))++(encN (clampN (rdVal r b 1))++(encN (clampN (rdVal r b 2))++s.1)):=by
 subst hs
 obtain ⟨a2,b2⟩:=O.rdSt_one (k:=2) h
 obtain ⟨a1,b1⟩:=O.rdSt_one (k:=1) a2
 obtain ⟨a0,b0⟩:=O.rdSt_one (k:=0) a1
 refine ⟨a0,?_⟩
 rw [←b2,←b1]
 exact b0
theorem eight_at {r:List UInt8} {b:Bool} {s:O.Rs} (hs:s=rdSt r b 8) (h:s.2=false):b=false∧r=encN (clampN (rdVal r b 0))++(encN (clampN (rdVal r b 1))++(encN (clampN (rdVal r b 2))++(encN (clampN (rdVal r b 3))++(encN (clampN (rdVal r b 4))++(encN (clampN (rdVal r b 5))++(encN (clampN (rdVal r b 6))++(encN (clampN (rdVal r b 7))++s.1))))))):=by
 subst hs
 obtain ⟨a7,b7⟩:=O.rdSt_one (k:=7) h
 obtain ⟨a6,b6⟩:=O.rdSt_one (k:=6) a7
 obtain ⟨a5,b5⟩:=O.rdSt_one (k:=5) a6
 obtain ⟨a4,b4⟩:=O.rdSt_one (k:=4) a5
 obtain ⟨a3,b3⟩:=O.rdSt_one (k:=3) a4
 obtain ⟨a2,b2⟩:=O.rdSt_one (k:=2) a3
 obtain ⟨a1,b1⟩:=O.rdSt_one (k:=1) a2
 obtain ⟨a0,b0⟩:=O.rdSt_one (k:=0) a1
 refine ⟨a0,?_⟩
 rw [←b7,←b6,←b5,←b4,←b3,←b2,←b1]
 exact b0
theorem decC_canon {l:List UInt8} (h:O.wholeS (O.decC l).2=true):O.encC (O.decC l).1=l:=by
 unfold O.wholeS O.decC at h
 simp only [Bool.and_eq_true,Bool.not_eq_true',List.isEmpty_iff] at h
 obtain ⟨h1,h2⟩:=h
 obtain ⟨t,f⟩:=O.took_at (s:=rdSt l false 4) (t:=O.kc l) rfl h1
 rw [h2,List.append_nil] at f
 obtain ⟨-,e⟩:=O.four_at (r:=l) (b:=false) (s:=rdSt l false 4) rfl t
 unfold O.encC O.decC
 simp only [O.encs_cons,O.encs_nil,List.append_nil,O.encS_txt,List.append_assoc]
 rw [f] at e
 exact e.symm
theorem rpOf_canon {l:List UInt8} (h:wholeP l=true):encP (rpOf l)=l:=by
 unfold wholeP at h
 simp only [Bool.and_eq_true,Bool.not_eq_true',List.isEmpty_iff] at h
 obtain ⟨h6,hr⟩:=h
 obtain ⟨h5,e5⟩:=O.rdSt_one (k:=5) h6
 obtain ⟨h4,e4⟩:=O.rdSt_one (k:=4) h5
 obtain ⟨h3,e3⟩:=O.rdSt_one (k:=3) h4
 obtain ⟨h2,e2⟩:=O.rdSt_one (k:=2) h3
 obtain ⟨h1,e1⟩:=O.rdSt_one (k:=1) h2
 obtain ⟨-,e0⟩:=O.rdSt_one (k:=0) h1
 rw [encP_eq]
 rw [hr] at e5
 unfold rpOf
 simp only
 rw [←e5,←e4,←e3,←e2,←e1,←e0]
 rfl
theorem goodD_canon {l:List UInt8} (h:goodD l=true):encO (dqQ (decD l))=l:=by
 unfold goodD at h
 simp only [Bool.and_eq_true,decide_eq_true_eq] at h
 obtain ⟨b1,b2,b3,b4,b5,b6,-,b8⟩:=decD_le l
 rw [encD_of b1 b2 b3 b4 b5 b6 h.1.2 b8]
 exact (decD_back h.1.1).symm
theorem goodD_of {o:Rq} (h:mayO o=true):goodD (encO o)=true∧dqQ (decD (encO o))=o:=by
 have e:=decD_q h
 have e2:=dqQ_q h
 refine ⟨?_,by rw [e,e2]⟩
 unfold goodD
 rw [e,e2,h]
 have hb:(qD o).b≤1:=by
  show clampN (b1 o.buy)≤1
  cases o.buy<;>decide
 rw [decide_eq_true hb]
 rfl
theorem restW_with {d:Wd} {r:List UInt8} (hr:okRest d.kind r=true):restW (withW d r)=r:=by
 have hk:(withW d r).kind=d.kind:=by unfold withW;(repeat' split)<;>rfl
 unfold restW
 rw [hk]
 unfold okRest at hr
 unfold withW
 by_cases k3:d.kind=3
 ·rw [if_pos k3] at hr ⊢
  rw [if_pos k3]
  unfold O.goodM at hr
  rw [Bool.and_eq_true] at hr
  exact O.dec_canon hr.1
 rw [if_neg k3] at hr ⊢
 rw [if_neg k3]
 by_cases k4:d.kind=4
 ·rw [if_pos k4] at hr ⊢
  rw [if_pos k4]
  unfold O.goodC at hr
  rw [Bool.and_eq_true] at hr
  exact decC_canon hr.1
 rw [if_neg k4] at hr ⊢
 rw [if_neg k4]
 by_cases k5:d.kind=5
 ·rw [if_pos k5] at hr ⊢
  rw [if_pos k5]
  exact goodD_canon hr
 rw [if_neg k5] at hr ⊢
 rw [if_neg k5]
 by_cases k6:d.kind=6
 ·rw [if_pos k6] at hr ⊢
  rw [if_pos k6]
  unfold goodP at hr
  rw [Bool.and_eq_true] at hr
  exact rpOf_canon hr.1
 rw [if_neg k6,if_neg k6]
theorem wd_back {p:List UInt8} (hw:wholeW p=true) (hr:okRest (dK p) (dR p).1=true):wdB (wdOf p)=p:=by
 unfold wholeW at hw
 simp only [Bool.and_eq_true,Bool.not_eq_true',List.isEmpty_iff] at hw
 obtain ⟨w1,w2⟩:=hw
 obtain ⟨s1,s2⟩:=O.took_at (s:=dS p) (t:=dR p) rfl w1
 rw [w2,List.append_nil] at s2
 have hG:(dG p).2.2=false∧(dG p).2.1=(if dK p=6 then encs [((rdVal (dG p).2.1 (dG p).2.2 0:Nat):Int),((rdVal (dG p).2.1 (dG p).2.2 1:Nat):Int),((rdVal (dG p).2.1 (dG p).2.2 2:Nat):Int)] else [])++encRow (dR p).1:=by
  unfold dS at s1 s2
  by_cases k6:dK p=6
  ·rw [if_pos k6] at s1 s2 ⊢
   obtain ⟨s,hs⟩:∃ s,s=rdSt (dG p).2.1 (dG p).2.2 3:=⟨_,rfl⟩
   rw [←hs] at s1 s2
   obtain ⟨e1,e2⟩:=three_at hs s1
   refine ⟨e1,?_⟩
   rw [s2] at e2
   simp only [O.encs_cons,O.encs_nil,List.append_nil,List.append_assoc]
   exact e2
  ·rw [if_neg k6] at s1 s2 ⊢
   exact ⟨s1,by rw [List.nil_append];exact s2⟩
 obtain ⟨g1,g2⟩:=hG
 obtain ⟨f1,f2⟩:=O.took_at (s:=(dF p).2) (t:=dG p) rfl g1
 obtain ⟨e1,e2⟩:=O.took_at (s:=dE p) (t:=dF p) rfl f1
 have hn:p=encs [dK p,((rdVal p false 1:Nat):Int),((rdVal p false 2:Nat):Int),((rdVal p false 3:Nat):Int),((rdVal p false 4:Nat):Int),((rdVal p false 5:Nat):Int),((rdVal p false 6:Nat):Int),((rdVal p false 7:Nat):Int)]++(dE p).1:=by
  obtain ⟨-,e⟩:=eight_at (s:=dE p) rfl e1
  simp only [O.encs_cons,O.encs_nil,List.append_nil,List.append_assoc]
  exact e
 have hk:(baseW p).kind=dK p:=rfl
 have hrw:=restW_with (d:=baseW p) (r:=(dR p).1) (by rw [hk];exact hr)
 have hop:∀ d:Wd,opsB d=if d.kind=6 then encs [d.op.kind,d.op.client,d.op.seq] else []:=fun _=>rfl
 have h1:numsB (wdOf p)=encs [dK p,((rdVal p false 1:Nat):Int),((rdVal p false 2:Nat):Int),((rdVal p false 3:Nat):Int),((rdVal p false 4:Nat):Int),((rdVal p false 5:Nat):Int),((rdVal p false 6:Nat):Int),((rdVal p false 7:Nat):Int)]:=by
  unfold wdOf withW;(repeat' split)<;>rfl
 have h2:encS (wdOf p).sf=encRow (dF p).1:=by
  have:(wdOf p).sf=O.txt (dF p).1:=by unfold wdOf withW;(repeat' split)<;>rfl
  rw [this,O.encS_txt]
 have h3:encS (wdOf p).st=encRow (dG p).1:=by
  have:(wdOf p).st=O.txt (dG p).1:=by unfold wdOf withW;(repeat' split)<;>rfl
  rw [this,O.encS_txt]
 have h4:opsB (wdOf p)=if dK p=6 then encs [((rdVal (dG p).2.1 (dG p).2.2 0:Nat):Int),((rdVal (dG p).2.1 (dG p).2.2 1:Nat):Int),((rdVal (dG p).2.1 (dG p).2.2 2:Nat):Int)] else []:=by
  have hkk:(wdOf p).kind=dK p:=by unfold wdOf withW;(repeat' split)<;>rfl
  rw [hop,hkk]
  by_cases k6:dK p=6
  ·rw [if_pos k6,if_pos k6]
   have:(wdOf p).op=opD p:=by
    unfold wdOf withW
    rw [hk,k6]
    rfl
   rw [this]
   unfold opD
   rw [if_pos k6]
  ·rw [if_neg k6,if_neg k6]
 unfold wdB
 rw [h1,h2,h3,h4]
 have h5:restW (wdOf p)=(dR p).1:=hrw
 rw [h5,List.append_assoc,←g2,List.append_assoc,List.append_assoc,←f2]
 conv=>rhs;rw [hn,e2]
theorem oneB_back {l:List UInt8} (h:(F.oneB l).2=0):l=F.frameB (F.oneB l).1∧(F.oneB l).1.length≤1048576:=by
 unfold F.oneB at h ⊢
 by_cases h1:l.length<8
 ·have e:F.decB l=([],0,2):=by unfold F.decB;rw [if_pos h1]
  rw [e] at h;simp at h
 by_cases h2:l.take 8≠F.headB (F.unFour l)
 ·have e:F.decB l=([],0,4):=by unfold F.decB;rw [if_neg h1,if_pos h2]
  rw [e] at h;simp at h
 by_cases h3:1048576<F.unFour l
 ·have e:F.decB l=([],0,5):=by unfold F.decB;rw [if_neg h1,if_neg h2,if_pos h3]
  rw [e] at h;simp at h
 by_cases h4:l.length<12+F.unFour l
 ·have e:F.decB l=([],0,2):=by unfold F.decB;rw [if_neg h1,if_neg h2,if_neg h3,if_pos h4]
  rw [e] at h;simp at h
 by_cases h5:F.unFour (l.drop (8+F.unFour l))≠sumOf (l.take (8+F.unFour l))
 ·have e:F.decB l=([],0,4):=by unfold F.decB;rw [if_neg h1,if_neg h2,if_neg h3,if_neg h4,if_pos h5]
  rw [e] at h;simp at h
 have e:F.decB l=((l.drop 8).take (F.unFour l),12+F.unFour l,0):=by unfold F.decB;rw [if_neg h1,if_neg h2,if_neg h3,if_neg h4,if_neg h5]
 rw [e] at h ⊢
 simp only at h ⊢
 by_cases h6:12+F.unFour l≠l.length
 ·rw [if_pos ⟨trivial,h6⟩] at h;simp at h
 rw [if_neg (fun hh=>h6 hh.2)]
 have h2':l.take 8=F.headB (F.unFour l):=Classical.byContradiction h2
 have h5':F.unFour (l.drop (8+F.unFour l))=sumOf (l.take (8+F.unFour l)):=Classical.byContradiction h5
 have h6':12+F.unFour l=l.length:=Classical.byContradiction h6
 obtain ⟨n,hn⟩:∃ n,n=F.unFour l:=⟨_,rfl⟩
 rw [←hn] at h2' h3 h5' h6' ⊢
 have hp:((l.drop 8).take n).length=n:=by rw [List.length_take,List.length_drop];omega
 refine ⟨?_,by rw [hp];omega⟩
 unfold F.frameB
 rw [hp]
 have e1:F.headB n++(l.drop 8).take n=l.take (8+n):=by rw [←h2',←List.take_add]
 rw [e1,←h5',F.four_unFour (by rw [List.length_drop];omega)]
 have hd:(l.drop (8+n)).take 4=l.drop (8+n):=List.take_of_length_le (by rw [List.length_drop];omega)
 rw [hd,List.take_append_drop]
def goodW (p:List UInt8):Bool:=wholeW p&&okRest (dK p) (dR p).1&&mayW (wdOf p)
theorem good_enc {p:List UInt8} (h:goodW p=true):encW (wdOf p)=F.frameB p:=by
 unfold goodW at h
 simp only [Bool.and_eq_true] at h
 unfold encW
 rw [wd_back h.1.1 h.1.2]
theorem wd_there {d:Wd} (h:mayW d=true) (hl:Light d):goodW (wdB d)=true∧wdOf (wdB d)=d:=by
 have I:=is_of h
 have hb:=I.bounds
 have cl:∀ v∈[d.kind,d.zone,d.epoch,d.index,d.size,d.off,d.host,d.err],((clampN v:Nat):Int)=v:=fun v hv=>clampN_of (hb v hv).1 (hb v hv).2
 simp only [List.mem_cons,List.not_mem_nil,or_false,forall_eq_or_imp,forall_eq] at cl
 obtain ⟨c0,c1,c2,c3,c4,c5,c6,c7⟩:=cl
 obtain ⟨p,hp⟩:∃ p,p=wdB d:=⟨_,rfl⟩
 have sz:∀ x:ByteArray,x.data.toList.length=x.size:=fun x=>by rw [Array.length_toList];rfl
 have he:p=encN (clampN d.kind)++(encN (clampN d.zone)++(encN (clampN d.epoch)++(encN (clampN d.index)++(encN (clampN d.size)++(encN (clampN d.off)++(encN (clampN d.host)++(encN (clampN d.err)++(encRow d.sf.data.toList++(encRow d.st.data.toList++(opsB d++encRow (restW d))))))))))):=by
  rw [hp]
  unfold wdB numsB encS
  simp only [O.encs_cons,O.encs_nil,List.append_nil,List.append_assoc]
 rw [←hp]
 have v0:rdVal p false 0=clampN d.kind:=by rw [he,rdVal_enc0 _ _ _ (clampN_le _)]
 have v1:rdVal p false 1=clampN d.zone:=by rw [he];simp only [rdVal_enc _ _ _ _ (clampN_le _),rdVal_enc0 _ _ _ (clampN_le _)]
 have v2:rdVal p false 2=clampN d.epoch:=by rw [he];simp only [rdVal_enc _ _ _ _ (clampN_le _),rdVal_enc0 _ _ _ (clampN_le _)]
 have v3:rdVal p false 3=clampN d.index:=by rw [he];simp only [rdVal_enc _ _ _ _ (clampN_le _),rdVal_enc0 _ _ _ (clampN_le _)]
 have v4:rdVal p false 4=clampN d.size:=by rw [he];simp only [rdVal_enc _ _ _ _ (clampN_le _),rdVal_enc0 _ _ _ (clampN_le _)]
 have v5:rdVal p false 5=clampN d.off:=by rw [he];simp only [rdVal_enc _ _ _ _ (clampN_le _),rdVal_enc0 _ _ _ (clampN_le _)]
 have v6:rdVal p false 6=clampN d.host:=by rw [he];simp only [rdVal_enc _ _ _ _ (clampN_le _),rdVal_enc0 _ _ _ (clampN_le _)]
 have v7:rdVal p false 7=clampN d.err:=by rw [he];simp only [rdVal_enc _ _ _ _ (clampN_le _),rdVal_enc0 _ _ _ (clampN_le _)]
 have vE:dE p=(encRow d.sf.data.toList++(encRow d.st.data.toList++(opsB d++encRow (restW d))),false):=by
  unfold dE
  rw [he]
  simp only [rdSt_enc _ _ _ _ (clampN_le _),O.rz]
 have vF:dF p=(d.sf.data.toList,encRow d.st.data.toList++(opsB d++encRow (restW d)),false):=by
  unfold dF
  rw [vE]
  exact tookOf_enc _ _ _ (by rw [sz];have:=hl.sf;omega)
 have vG:dG p=(d.st.data.toList,opsB d++encRow (restW d),false):=by
  unfold dG
  rw [vF]
  exact tookOf_enc _ _ _ (by rw [sz];have:=hl.st;omega)
 have vK:dK p=d.kind:=by unfold dK;rw [v0,c0]
 have hrl:=restW_length h hl
 have vS:dS p=(encRow (restW d),false):=by
  unfold dS
  rw [vK,vG]
  by_cases k6:d.kind=6
  ·rw [if_pos k6]
   unfold opsB
   rw [if_pos k6]
   simp only [O.encs_cons,O.encs_nil,List.append_nil,List.append_assoc]
   simp only [rdSt_enc _ _ _ _ (clampN_le _),O.rz]
  ·rw [if_neg k6]
   unfold opsB
   rw [if_neg k6]
   rfl
 have vR:dR p=(restW d,[],false):=by
  unfold dR
  rw [vS]
  have:=tookOf_enc (restW d) [] false (by omega)
  rwa [List.append_nil] at this
 have vO:d.kind=6→opD p=d.op:=fun k6=>by
  unfold opD
  rw [vK,if_pos k6,vG]
  have co:=I.opnums k6
  have e:opsB d++encRow (restW d)=encN (clampN d.op.kind)++(encN (clampN d.op.client)++(encN (clampN d.op.seq)++encRow (restW d))):=by
   unfold opsB
   rw [if_pos k6]
   simp only [O.encs_cons,O.encs_nil,List.append_nil,List.append_assoc]
  simp only [e,rdVal_enc _ _ _ _ (clampN_le _),rdVal_enc0 _ _ _ (clampN_le _)]
  rw [clampN_of (co _ (by simp)).1 (co _ (by simp)).2,clampN_of (co _ (by simp)).1 (co _ (by simp)).2,clampN_of (co _ (by simp)).1 (co _ (by simp)).2]
  exact (I.ophead k6).symm
 have hwhole:wholeW p=true:=by unfold wholeW;rw [vR];rfl
 have hbase:baseW p=⟨d.kind,d.zone,d.epoch,d.index,d.size,d.off,d.host,d.err,d.sf,d.st,opD p,zRp,mp0,ch0,[]⟩:=by
  unfold baseW
  rw [vK,v1,v2,v3,v4,v5,v6,v7,c1,c2,c3,c4,c5,c6,c7,vF,vG]
 have key:okRest d.kind (restW d)=true∧wdOf p=d:=by
  unfold wdOf
  rw [hbase,vR]
  have hop:¬d.kind=5→¬d.kind=6→d.op=rq0:=fun k5 k6=>(congrArg Pl.op I.pl).trans (by unfold namedW;simp only [k5,k6,if_false];(repeat' split)<;>rfl)
  have hrep:¬d.kind=6→d.rep=zRp:=fun k6=>(congrArg Pl.rep I.pl).trans (by unfold namedW;simp only [k6,if_false];(repeat' split)<;>rfl)
  have hch:¬d.kind=4→d.ch=ch0:=fun k4=>(congrArg Pl.ch I.pl).trans (by unfold namedW;simp only [k4,if_false];(repeat' split)<;>rfl)
  have hmp:¬d.kind=3→d.mp=mp0:=fun k3=>I.mp.trans (by unfold mapW hasM;rw [decide_eq_false k3];rfl)
  have hda:hasD d.kind=false→d.data=[]:=fun k=>I.data.trans (by unfold dataW;rw [k];rfl)
  have hopz:¬d.kind=6→opD p=rq0:=fun k6=>by unfold opD;rw [vK,if_neg k6]
  unfold okRest withW restW
  dsimp only
  by_cases k3:d.kind=3
  ·have ma:mayM d.mp=true:=by have:=I.ok;simpa [okD,k3] using this
   obtain ⟨g1,g2⟩:=O.good_enc ma hl.mp.sz
   rw [if_pos k3,if_pos k3,if_pos k3]
   refine ⟨g1,Wd.ext4 rfl ?_ g2 (hda (by rw [k3];rfl)).symm⟩
   rw [hopz (by omega)]
   unfold Wd.pl
   rw [hop (by omega) (by omega),hrep (by omega),hch (by omega)]
  rw [if_neg k3,if_neg k3,if_neg k3]
  by_cases k4:d.kind=4
  ·have ma:mayC d.ch=true:=by have:=I.ok;simpa [okD,k4] using this
   obtain ⟨g1,g2⟩:=O.goodC_enc ma
   rw [if_pos k4,if_pos k4,if_pos k4]
   refine ⟨g1,Wd.ext4 rfl ?_ (hmp k3).symm (hda (by rw [k4];rfl)).symm⟩
   rw [hopz (by omega),g2]
   unfold Wd.pl
   rw [hop (by omega) (by omega),hrep (by omega)]
  rw [if_neg k4,if_neg k4,if_neg k4]
  by_cases k5:d.kind=5
  ·have ma:mayO d.op=true:=by have:=I.ok;simpa [okD,k5] using this
   rw [if_pos k5,if_pos k5,if_pos k5]
   have g1:=goodD_of ma
   refine ⟨g1.1,Wd.ext4 rfl ?_ (hmp k3).symm (hda (by rw [k5];rfl)).symm⟩
   rw [g1.2]
   unfold Wd.pl
   rw [hrep (by omega),hch (by omega)]
  rw [if_neg k5,if_neg k5,if_neg k5]
  by_cases k6:d.kind=6
  ·rw [if_pos k6,if_pos k6,if_pos k6]
   have g1:=rpOf_enc (mayW_rep h k6)
   refine ⟨g1.1,Wd.ext4 rfl ?_ (hmp k3).symm (hda (by rw [k6];rfl)).symm⟩
   rw [g1.2,vO k6]
   unfold Wd.pl
   rw [hch (by omega)]
  rw [if_neg k6,if_neg k6,if_neg k6]
  refine ⟨rfl,Wd.ext4 rfl ?_ (hmp k3).symm rfl⟩
  rw [hopz k6]
  unfold Wd.pl
  rw [hop k5 k6,hrep k6,hch k4]
 refine ⟨?_,key.2⟩
 unfold goodW
 rw [hwhole,key.2,h,vK,vR,key.1]
 rfl
end Go.Proofs.YtogamdaomdoapaaGreat
namespace Go.Proofs.YtogamdaomdoapaaGreat
set_option maxRecDepth 20000
open Go.RowKit
theorem results_row_tmp {P:Program} {fn:Func} {p u:Tmp} {ty:TypeId} (h:fn.results=#[.cell p ty,.tmp u]) (tmps:Array Value) (w:World) (g:Nat) (t:TypeId) (cs:Array Value) (fr:Nat × Nat) (d:TypeDesc)
 (hp:tmps.getD p undef=.pointer (some ⟨g,0,none⟩)) (hg:w.heap[g]?=some (.cells cs t fr))
 (hu:P.underlying ty=some d) (hd:(match d with | .struct _ | .array _ _=>true | _=>false)=true) (hi:(P.info? ty).map (·.size)=some cs.size) :
 (results fn tmps).run P w=.ok (.tuple #[.agg cs,tmps.getD u undef]) w:=by
 rw [results_cell_tmp h tmps P w,hp]
 simp only [asAddr,Sem.run_pure,Result.andThen_ok]
 rw [run_loadVar_row w g t ty cs fr d hg hu hd hi]
 simp only [Result.andThen_ok]
def zWd:Wd:=⟨0,0,0,0,0,0,0,0,e0,e0,rq0,zRp,mp0,ch0,[]⟩
theorem St.setRow37 {W w:World} {L:List Th} {b:Nat} {cur:Array Value} {t:TypeId} (h:St W w (thObj b (.cells cur t (0,0))::L)) (cs:Array Value):St W (w.setRow b cs) (thObj b (.cells cs t (0,0))::L) :=
 h.step (w':=w.setRow b cs) ⟨rfl,rfl,rfl,by simp,fun k _ hn=>setRow_other w b k cs (fun e=>hn e)⟩ _ (setRow_heap w b cur cs t (0,0) h.head) (fun _ hx=>.inl hx)
set_option maxHeartbeats 4000000 in
theorem decode_badN (ao:Option Addr) (cap:Nat) (l:List UInt8) (w:World) (h:F.Sl w ao cap l) (hm:l.length≤140737488351232) (c0:Nat) (hc0:c0=(F.oneB l).2) (hc:c0≠0) :
 Calls Tryz.prog 27 #[.slice ao l.length cap] w fun e w'=>e=.returned (.tuple #[.agg (wdV zWd (.slice none 0 0) (.slice none 0 0)),.int .i64 c0])∧Below w.heap.size w w':=by
 obtain ⟨n,hn⟩:∃ n,n=l.length:=⟨_,rfl⟩
 have Hone:=Lib.hid (fun (w3:World) (hb:Below w.heap.size w w3)=>F.one_any ao cap l w3 (h.grow hb) hm)
 unfold F.OnePost at Hone
 obtain ⟨r,c,hr⟩:∃ r c,F.oneB l=(r,c):=⟨_,_,rfl⟩
 rw [hr] at Hone hc0
 rw [←hn] at Hone ⊢
 simp only at Hone hc0
 subst hc0
 have hcI:((c0:Int) != 0)=true:=by rw [bne_iff_ne];omega
 clear hr h hm hn
 go_enter Tryz.func27,Tryz.ntmps27
 refine wp_holdQ fun R HR=>?_
 refine wp_hold fun C HC=>?_
 go_wp2_with fail
 refine wp_name fun wa hwa=>?_
 obtain ⟨B,hB⟩:∃ B,B=w.heap.size:=⟨_,rfl⟩
 have S:Hid (St w wa [thObj B (.cells #[.int .i64 0,.int .i64 0,.int .i64 0,.int .i64 0,.int .i64 0,.int .i64 0,.int .i64 0,.int .i64 0,.string ⟨#[]⟩,.string ⟨#[]⟩,.int .i64 0,.int .i64 0,.int .i64 0,.string ⟨#[]⟩,.string ⟨#[]⟩,.string ⟨#[]⟩,.string ⟨#[]⟩,.int .i64 0,.int .i64 0,.int .i64 0,.bool false,.int .i64 0,.int .i64 0,.int .i64 0,.int .i64 0,.int .i64 0,.int .i64 0,.int .i64 0,.int .i64 0,.int .i64 0,.slice none 0 0,.int .i64 0,.int .i64 0,.int .i64 0,.int .i64 0,.string ⟨#[]⟩,.slice none 0 0] 85 (0,0))]):=by rw [hwa];exact Lib.hid ((St.start w).objN _ B hB)
 rw [←hB]
 clear hwa hB
 (have hC:=HC.out);clear HC;subst hC
 refine wp_hold fun C HC=>?_
 go_wp2_with fail
 refine (Hone.out wa S.out.b).mono ?_
 rintro e w1 ⟨qo,qc,rfl,-,hb1⟩
 have S:=Lib.hid (S.out.grow hb1)
 clear hb1
 go_wp2_with fail
 (have hC:=HC.out);clear HC;subst hC
 refine wp_seq ?_
 refine wp_hold fun C HC=>?_
 go_wp2_with fail
 (have hC:=HC.out);clear HC;subst hC
 refine wp_cond_true rfl ?_
 refine wp_seq ?_
 refine wp_region_lit ?_
 refine list_hold 2 fun L HL=>?_
 simp only [List.take_succ_cons,List.take_zero,List.cons_append,List.nil_append]
 go_wp2_with fail
 (have hL:=HL.out);clear HL;subst hL
 simp only [List.drop_succ_cons,List.drop_zero]
 refine wpList_store_row rfl 85 _ _ rfl B #[.int .i64 0,.int .i64 0,.int .i64 0,.int .i64 0,.int .i64 0,.int .i64 0,.int .i64 0,.int .i64 0,.string ⟨#[]⟩,.string ⟨#[]⟩,.int .i64 0,.int .i64 0,.int .i64 0,.string ⟨#[]⟩,.string ⟨#[]⟩,.string ⟨#[]⟩,.string ⟨#[]⟩,.int .i64 0,.int .i64 0,.int .i64 0,.bool false,.int .i64 0,.int .i64 0,.int .i64 0,.int .i64 0,.int .i64 0,.int .i64 0,.int .i64 0,.int .i64 0,.int .i64 0,.slice none 0 0,.int .i64 0,.int .i64 0,.int .i64 0,.int .i64 0,.string ⟨#[]⟩,.slice none 0 0] rfl rfl 85 _ S.out.head (by kernel_rfl) rfl (by simp [Value.oneCell']) ?_
 have S2:=Lib.hid (S.out.setRow37 #[.int .i64 0,.int .i64 0,.int .i64 0,.int .i64 0,.int .i64 0,.int .i64 0,.int .i64 0,.int .i64 0,.string ⟨#[]⟩,.string ⟨#[]⟩,.int .i64 0,.int .i64 0,.int .i64 0,.string ⟨#[]⟩,.string ⟨#[]⟩,.string ⟨#[]⟩,.string ⟨#[]⟩,.int .i64 0,.int .i64 0,.int .i64 0,.bool false,.int .i64 0,.int .i64 0,.int .i64 0,.int .i64 0,.int .i64 0,.int .i64 0,.int .i64 0,.int .i64 0,.int .i64 0,.slice none 0 0,.int .i64 0,.int .i64 0,.int .i64 0,.int .i64 0,.string ⟨#[]⟩,.slice none 0 0])
 clear S
 refine list_name fun w2 hw2=>?_
 rw [←hw2] at S2
 clear hw2
 go_wp2_with fail
 (have hR:=HR.out);clear HR;subst hR
 go_wp2_with fail
 refine bodyPost_ret (results_row_tmp rfl _ _ B 85 _ (0,0) _ rfl S2.out.head Tryz.underlying85 rfl (by kernel_rfl)) rfl ⟨rfl,S2.out.b⟩
end Go.Proofs.YtogamdaomdoapaaGreat
namespace Go.Proofs.YtogamdaomdoapaaGreat
open Go.RowKit
structure WIs (p:List UInt8) (k0 k1 k2 k3 k4 k5 k6 k7 m0 m1 m2:Nat) (e1:List UInt8) (b1:Bool) (sf e2:List UInt8) (b2:Bool) (st e3:List UInt8) (b3:Bool) (e4:List UInt8) (b4:Bool) (r e5:List UInt8) (b5:Bool):Prop where
 v0:k0=rdVal p false 0
 v1:k1=rdVal p false 1
 v2:k2=rdVal p false 2
 v3:k3=rdVal p false 3
 v4:k4=rdVal p false 4
 v5:k5=rdVal p false 5
 v6:k6=rdVal p false 6
 v7:k7=rdVal p false 7
 n0:m0=rdVal e3 b3 0
 n1:m1=rdVal e3 b3 1
 n2:m2=rdVal e3 b3 2
 hE1:e1=(rdSt p false 8).1
 hE2:b1=(rdSt p false 8).2
 hF:tookOf e1 b1=(sf,e2,b2)
 hG:tookOf e2 b2=(st,e3,b3)
 hS1:k0=6→e4=(rdSt e3 b3 3).1
 hS2:k0=6→b4=(rdSt e3 b3 3).2
 hN1:k0≠6→e4=e3
 hN2:k0≠6→b4=b3
 hR:tookOf e4 b4=(r,e5,b5)
 l1:e1.length≤p.length
 l2:e2.length≤p.length
 l3:e3.length≤p.length
 l4:e4.length≤p.length
 l5:e5.length≤p.length
 lr:r.length≤p.length
 lf:sf.length≤p.length
 lt:st.length≤p.length
 dr:(dR p).1=r
 dk:dK p=k0
 wh:wholeW p=(!b5&&e5.isEmpty)
 base:baseW p=⟨k0,k1,k2,k3,k4,k5,k6,k7,⟨sf.toArray⟩,⟨st.toArray⟩,if (k0:Int)=6 then { rq0 with kind:=m0,client:=m1,seq:=m2 } else rq0,zRp,mp0,ch0,[]⟩
theorem took3 (t:List UInt8 × List UInt8 × Bool):t=(t.1,t.2.1,t.2.2):=rfl
theorem took_lenW {r x r':List UInt8} {b b':Bool} (h:tookOf r b=(x,r',b')):x.length≤r.length∧r'.length≤r.length:=tookOf_le h.symm
theorem wis (p:List UInt8):∃ k0 k1 k2 k3 k4 k5 k6 k7 m0 m1 m2 e1 b1 sf e2 b2 st e3 b3 e4 b4 r e5 b5,WIs p k0 k1 k2 k3 k4 k5 k6 k7 m0 m1 m2 e1 b1 sf e2 b2 st e3 b3 e4 b4 r e5 b5:=by
 have h1:=rdSt_le p false 8
 have h2:=took_lenW (r:=(dE p).1) (b:=(dE p).2) (took3 (dF p))
 have h3:=took_lenW (r:=(dF p).2.1) (b:=(dF p).2.2) (took3 (dG p))
 have h4:(dS p).1.length≤(dG p).2.1.length:=by
  unfold dS
  split
  ·exact rdSt_le _ _ _
  ·exact Nat.le_refl _
 have h5:=took_lenW (r:=(dS p).1) (b:=(dS p).2) (took3 (dR p))
 have he:(dE p).1=(rdSt p false 8).1:=rfl
 rw [←he] at h1
 have hk:(rdVal p false 0=6)→dK p=6:=fun h=>by unfold dK;omega
 have hk2:(rdVal p false 0≠6)→dK p≠6:=fun h=>by unfold dK;omega
 refine ⟨_,_,_,_,_,_,_,_,_,_,_,(dE p).1,(dE p).2,(dF p).1,(dF p).2.1,(dF p).2.2,(dG p).1,(dG p).2.1,(dG p).2.2,(dS p).1,(dS p).2,(dR p).1,(dR p).2.1,(dR p).2.2,
  ⟨rfl,rfl,rfl,rfl,rfl,rfl,rfl,rfl,rfl,rfl,rfl,rfl,rfl,took3 (dF p),took3 (dG p),fun h=>by unfold dS;rw [if_pos (hk h)],fun h=>by unfold dS;rw [if_pos (hk h)],fun h=>by unfold dS;rw [if_neg (hk2 h)],fun h=>by unfold dS;rw [if_neg (hk2 h)],took3 (dR p),h1,by omega,by omega,by omega,by omega,by omega,by omega,by omega,rfl,rfl,rfl,rfl⟩⟩
def wdDec (l:List UInt8):Wd × Int:=if (F.oneB l).2=0 then (if goodW (F.oneB l).1=true then (wdOf (F.oneB l).1,0) else (zWd,3)) else (zWd,((F.oneB l).2:Nat))
structure SmW (p:List UInt8):Prop where
 r:(dR p).1.length≤18000
 k:dK p=3∨(dR p).1.length≤2000
 li:wholeW p=true→okRest (dK p) (dR p).1=true→Light (wdOf p)
end Go.Proofs.YtogamdaomdoapaaGreat
namespace Go.Proofs.YtogamdaomdoapaaGreat
open Go.RowKit
theorem one_frameW (p:List UInt8) (hp:p.length≤1048576):F.oneB (F.frameB p)=(p,0):=by
 have h:=F.dec_frame p [] hp
 rw [List.append_nil] at h
 unfold F.oneB
 rw [h]
 dsimp only
 rw [if_neg]
 intro h2
 exact h2.2 (by rw [F.frameB_length])
theorem MzB0:O.MzB mp0:=O.MzB.of ⟨by decide,fun z hz=>by cases hz⟩
theorem small_enc {d:Wd} (h:mayW d=true) (hl:Light d) (hd:d.data.length≤2000):SmW (wdB d):=by
 obtain ⟨hg,hw⟩:=wd_there h hl
 have hg2:=hg
 unfold goodW at hg2
 simp only [Bool.and_eq_true] at hg2
 have hb:(baseW (wdB d)).kind=dK (wdB d):=rfl
 have hr:=restW_with (d:=baseW (wdB d)) (r:=(dR (wdB d)).1) (by rw [hb];exact hg2.1.2)
 have hr2:(dR (wdB d)).1=restW d:=by rw [←hr];show restW (wdOf (wdB d))=_;rw [hw]
 have hk:dK (wdB d)=d.kind:=by
  have:(wdOf (wdB d)).kind=dK (wdB d):=by unfold wdOf withW;(repeat' split)<;>rfl
  rw [←this,hw]
 have hsz:(restW d).length≤18000∧(d.kind=3∨(restW d).length≤2000):=by
  unfold restW
  by_cases k3:d.kind=3
  ·rw [if_pos k3]
   exact ⟨hl.mp.le,.inl k3⟩
  rw [if_neg k3]
  suffices hh:(if d.kind=4 then O.encC d.ch else if d.kind=5 then encO d.op else if d.kind=6 then encP d.rep else d.data).length≤2000 from ⟨by omega,.inr hh⟩
  by_cases k4:d.kind=4
  ·rw [if_pos k4]
   have hc:=O.mayC_key (mayW_ch h k4)
   have h1:=encs_length [d.ch.kind,d.ch.zone,d.ch.epoch,d.ch.tt]
   have h2:=encS_length d.ch.key
   unfold O.encC
   rw [List.length_append]
   simp only [List.length_cons,List.length_nil] at h1
   omega
  rw [if_neg k4]
  by_cases k5:d.kind=5
  ·rw [if_pos k5]
   exact encO_shortW (mayW_op h k5)
  rw [if_neg k5]
  by_cases k6:d.kind=6
  ·rw [if_pos k6]
   have h1:=encP_len d.rep
   unfold encP
   rw [List.length_append]
   omega
  rw [if_neg k6]
  exact hd
 exact ⟨by rw [hr2];exact hsz.1,by rw [hk,hr2];exact hsz.2,fun _ _=>by rw [hw];exact hl⟩
theorem wdDec_enc {d:Wd} (h:mayW d=true) (hl:Light d) (hb:(wdB d).length≤1048576):wdDec (encW d)=(d,0):=by
 obtain ⟨hg,hw⟩:=wd_there h hl
 unfold wdDec encW
 rw [one_frameW _ hb,if_pos rfl,if_pos hg,hw]
end Go.Proofs.YtogamdaomdoapaaGreat