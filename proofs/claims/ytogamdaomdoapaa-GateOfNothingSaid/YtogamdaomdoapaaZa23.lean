/- Texts put together: MayC, OCh, OLp. -/
import Derived.Test.YtogamdaomdoapaaZa09
import Derived.Test.YtogamdaomdoapaaZa13
import Derived.Test.YtogamdaomdoapaaZa14
import Derived.Test.YtogamdaomdoapaaZa15
import Derived.Test.YtogamdaomdoapaaZa20
import Derived.Test.YtogamdaomdoapaaZa22
namespace Go.Proofs.Ytogamdaomdoapaa
open Go.RowKit
def eqC (a b:Ch):Bool:=decide (a.kind=b.kind∧a.zone=b.zone∧a.epoch=b.epoch∧a.tt=b.tt∧a.key.toList=b.key.toList)
set_option maxHeartbeats 1000000 in
theorem eql_ch (a b:Ch) (w:World) (r:Bool) (hr:eqC a b=r):(Op.equalIn 10000 62 (.agg #[.int .i64 a.kind,.int .i64 a.zone,.int .i64 a.epoch,.int .i64 a.tt,.string a.key]) (.agg #[.int .i64 b.kind,.int .i64 b.zone,.int .i64 b.epoch,.int .i64 b.tt,.string b.key])).run Try.prog w=.ok r w:=by
 subst hr
 unfold eqC
 go_simp
 by_cases h1:a.kind=b.kind
 ·by_cases h2:a.zone=b.zone
  ·by_cases h3:a.epoch=b.epoch
   ·by_cases h4:a.tt=b.tt
    ·by_cases h5:a.key.toList=b.key.toList
     ·simp [h1,h2,h3,h4,h5]
     ·simp [h1,h2,h3,h4,h5]
    ·simp [h1,h2,h3,h4]
   ·simp [h1,h2,h3]
  ·simp [h1,h2]
 ·simp [h1]
set_option maxRecDepth 40000 in
set_option maxHeartbeats 4000000 in
theorem mayC_any (c:Ch) (w:World) (r:Bool) (hr:mayC c=r) :
 Calls Try.prog 72 #[.agg #[.int .i64 c.kind,.int .i64 c.zone,.int .i64 c.epoch,.int .i64 c.tt,.string c.key]] w fun e w'=>e=.returned (.bool r)∧Below w.heap.size w w':=by
 unfold mayC at hr
 cases hz:decide (1≤c.zone∧c.zone≤1099511627776) with
 | false =>
  have Hn:=Lib.hid (fun w=>isNum_any c.zone w false hz)
  rw [hz,Bool.false_and] at hr
  subst hr
  clear hz
  (go_enter Try.func72,Try.ntmps72;(go_wp2_with fail);(refine (Hn.out _).mono ?_);(rintro e w' ⟨rfl,rfl⟩);(go_wp2_with fail))
  go_ret
  exact ⟨rfl,bg⟩
 | true =>
  have Hn:=Lib.hid (fun w=>isNum_any c.zone w true hz)
  rw [hz,Bool.true_and] at hr
  clear hz
  obtain ⟨kind,zone,epoch,tt,key⟩:=c
  simp only at hr Hn ⊢
  by_cases k1:kind=1
  ·subst k1
   rw [if_pos rfl] at hr
   by_cases q1:1≤key.size
   ·by_cases q2:key.size≤16
    ·have heq:=fun w=>eql_ch ⟨0,0,epoch,tt,key⟩ ⟨0,0,0,0,key⟩ w r (by rw [←hr];simp [eqC,q1,q2])
     simp only at heq
     have d2:decide ((key.size:Int)≤16)=true:=by rw [decide_eq_true_eq];omega
     clear hr
     (go_enter Try.func72,Try.ntmps72;(go_wp2_with fail);(refine (Hn.out _).mono ?_);(rintro e w' ⟨rfl,rfl⟩);(go_wp2_with fail))
     go_ret
     exact ⟨rfl,bg⟩
    ·obtain rfl:r=false:=by rw [←hr];simp [q2]
     have d2:decide ((key.size:Int)≤16)=false:=by rw [decide_eq_false_iff_not];omega
     clear hr
     (go_enter Try.func72,Try.ntmps72;(go_wp2_with fail);(refine (Hn.out _).mono ?_);(rintro e w' ⟨rfl,rfl⟩);(go_wp2_with fail))
     go_ret
     exact ⟨rfl,bg⟩
   ·obtain rfl:r=false:=by rw [←hr];simp [q1]
    clear hr
    (go_enter Try.func72,Try.ntmps72;(go_wp2_with fail);(refine (Hn.out _).mono ?_);(rintro e w' ⟨rfl,rfl⟩);(go_wp2_with fail))
    go_ret
    exact ⟨rfl,bg⟩
  ·by_cases k2:kind=2
   ·subst k2
    rw [if_neg (by decide),if_pos rfl] at hr
    have heq:=fun w=>eql_ch ⟨0,0,epoch,tt,key⟩ ⟨0,0,0,0,⟨#[]⟩⟩ w r (by rw [←hr];simp [eqC])
    simp only at heq
    clear hr k1
    (go_enter Try.func72,Try.ntmps72;(go_wp2_with fail);(refine (Hn.out _).mono ?_);(rintro e w' ⟨rfl,rfl⟩);(go_wp2_with fail))
    go_ret
    exact ⟨rfl,bg⟩
   ·by_cases k3:kind=3
    ·subst k3
     rw [if_neg (by decide),if_neg (by decide),if_pos rfl] at hr
     by_cases q1:1≤tt
     ·by_cases q2:tt≤1048576
      ·have heq:=fun w=>eql_ch ⟨0,0,epoch,tt,key⟩ ⟨0,0,0,tt,⟨#[]⟩⟩ w r (by rw [←hr];simp [eqC,q1,q2])
       simp only at heq
       have d2:decide (tt≤1048576)=true:=by rw [decide_eq_true_eq];exact q2
       clear hr k1 k2
       (go_enter Try.func72,Try.ntmps72;(go_wp2_with fail);(refine (Hn.out _).mono ?_);(rintro e w' ⟨rfl,rfl⟩);(go_wp2_with fail))
       go_ret
       exact ⟨rfl,bg⟩
      ·obtain rfl:r=false:=by rw [←hr];simp [q2]
       have d2:decide (tt≤1048576)=false:=by rw [decide_eq_false_iff_not];exact q2
       clear hr k1 k2
       (go_enter Try.func72,Try.ntmps72;(go_wp2_with fail);(refine (Hn.out _).mono ?_);(rintro e w' ⟨rfl,rfl⟩);(go_wp2_with fail))
       go_ret
       exact ⟨rfl,bg⟩
     ·obtain rfl:r=false:=by rw [←hr];simp [q1]
      clear hr k1 k2
      (go_enter Try.func72,Try.ntmps72;(go_wp2_with fail);(refine (Hn.out _).mono ?_);(rintro e w' ⟨rfl,rfl⟩);(go_wp2_with fail))
      go_ret
      exact ⟨rfl,bg⟩
    ·by_cases k4:kind=4∨kind=5
     ·rw [if_neg k1,if_neg k2,if_neg k3,if_pos k4] at hr
      cases hep:decide (1≤epoch∧epoch≤1099511627776) with
      | true =>
       have He:=Lib.hid (fun w=>isNum_any epoch w true hep)
       have hq:1≤epoch∧epoch≤1099511627776:=by simpa using hep
       have heq:=fun w=>eql_ch ⟨0,0,epoch,tt,key⟩ ⟨0,0,epoch,0,⟨#[]⟩⟩ w r (by rw [←hr];simp [eqC,hq.1,hq.2])
       simp only at heq
       clear hr k1 k2 k3 hep hq
       rcases k4 with rfl | rfl
       ·(go_enter Try.func72,Try.ntmps72;(go_wp2_with fail);(refine (Hn.out _).mono ?_);(rintro e w' ⟨rfl,rfl⟩);(go_wp2_with fail))
        refine (He.out _).mono ?_
        rintro e w' ⟨rfl,rfl⟩
        go_wp2_with fail
        go_ret
        exact ⟨rfl,bg⟩
       ·(go_enter Try.func72,Try.ntmps72;(go_wp2_with fail);(refine (Hn.out _).mono ?_);(rintro e w' ⟨rfl,rfl⟩);(go_wp2_with fail))
        refine (He.out _).mono ?_
        rintro e w' ⟨rfl,rfl⟩
        go_wp2_with fail
        go_ret
        exact ⟨rfl,bg⟩
      | false =>
       have He:=Lib.hid (fun w=>isNum_any epoch w false hep)
       obtain rfl:r=false:=by
        rw [←hr]
        have hq:¬(1≤epoch∧epoch≤1099511627776):=by simpa using hep
        rw [decide_eq_false_iff_not]
        rintro ⟨h1,h2,-⟩
        exact hq ⟨h1,h2⟩
       clear hr k1 k2 k3 hep
       rcases k4 with rfl | rfl
       ·(go_enter Try.func72,Try.ntmps72;(go_wp2_with fail);(refine (Hn.out _).mono ?_);(rintro e w' ⟨rfl,rfl⟩);(go_wp2_with fail))
        refine (He.out _).mono ?_
        rintro e w' ⟨rfl,rfl⟩
        go_wp2_with fail
        go_ret
        exact ⟨rfl,bg⟩
       ·(go_enter Try.func72,Try.ntmps72;(go_wp2_with fail);(refine (Hn.out _).mono ?_);(rintro e w' ⟨rfl,rfl⟩);(go_wp2_with fail))
        refine (He.out _).mono ?_
        rintro e w' ⟨rfl,rfl⟩
        go_wp2_with fail
        go_ret
        exact ⟨rfl,bg⟩
     ·rw [if_neg k1,if_neg k2,if_neg k3,if_neg k4] at hr
      subst hr
      have e1:(kind==1)=false:=by rw [beq_eq_false_iff_ne];exact k1
      have e2:(kind==2)=false:=by rw [beq_eq_false_iff_ne];exact k2
      have e3:(kind==3)=false:=by rw [beq_eq_false_iff_ne];exact k3
      have e4:(kind==4)=false:=by rw [beq_eq_false_iff_ne];exact fun h=>k4 (.inl h)
      have e5:(kind==5)=false:=by rw [beq_eq_false_iff_ne];exact fun h=>k4 (.inr h)
      clear k1 k2 k3 k4
      (go_enter Try.func72,Try.ntmps72;(go_wp2_with fail);(refine (Hn.out _).mono ?_);(rintro e w' ⟨rfl,rfl⟩);(go_wp2_with fail))
      go_ret
      exact ⟨rfl,bg⟩
end Go.Proofs.Ytogamdaomdoapaa
namespace Go.Proofs.Ytogamdaomdoapaa.O
open Go.RowKit
set_option maxRecDepth 20000
def encC (c:Ch):List UInt8:=encs [c.kind,c.zone,c.epoch,c.tt]++encS c.key
theorem mayC_key {c:Ch} (h:mayC c=true):c.key.size≤16:=by
 have hnil:c.key.toList=[]→c.key.size≤16:=fun e=>by rw [size_nil e];omega
 unfold mayC at h
 rw [Bool.and_eq_true] at h
 obtain ⟨-,h⟩:=h
 split at h
 ·rw [decide_eq_true_eq] at h;omega
 ·split at h
  ·rw [decide_eq_true_eq] at h;exact hnil h.2.2
  ·split at h
   ·rw [decide_eq_true_eq] at h;exact hnil h.2.2.2
   ·split at h
    ·rw [decide_eq_true_eq] at h;exact hnil h.2.2.2
    ·cases h
def EncCPost (w:World) (c:Ch) (e:Ending) (w':World):Prop:=Below w.heap.size w w' ∧
 if mayC c=true then ∃ ao cap,e=.returned (.tuple #[.slice ao (encC c).length cap,.int .i64 0])∧OwnB w' w.heap.size ao cap (encC c) else e=.returned (.tuple #[.slice none 0 0,.int .i64 1])
set_option maxHeartbeats 4000000 in
theorem pencC_any (c:Ch) (w:World):Calls Try.prog 62 #[.agg #[.int .i64 c.kind,.int .i64 c.zone,.int .i64 c.epoch,.int .i64 c.tt,.string c.key]] w (EncCPost w c):=by
 obtain ⟨q,hq⟩:∃ q,q=mayC c:=⟨_,rfl⟩
 have Hmy:=Lib.hid (fun w=>mayC_any c w q hq.symm)
 have Hq:=Lib.hid hq
 have hcv:=conv_bytes
 have Hks:Hid (q=true→c.key.size≤16):=Lib.hid fun h=>mayC_key (by rw [←hq,h])
 clear hq
 obtain ⟨kind,zone,epoch,tt,key⟩:=c
 dsimp only at Hmy Hks ⊢
 cases q with
 | false =>
  go_enter Try.func62,Try.ntmps62
  go_wp2_with fail
  (refine calls_name fun wa hwa=>?_;have wa_b:Below w.heap.size w wa:=(by rw [hwa];exact bg);clear hwa)
  refine (Hmy.out wa).mono ?_
  (rintro e w1 ⟨rfl,w1_h⟩;obtain ⟨w1_hc,w1_hf⟩:=bcell w1_h;have w1_z:=w1_h.size;have w1_b:=wa_b.trans (w1_h.mono (by have:=wa_b.size;omega));have w1_le:=w1_b.size;clear w1_h)
  go_wp2_with fail
  go_ret2
  unfold EncCPost
  rw [if_neg (by rw [←Hq.out];simp)]
  exact ⟨bg,rfl⟩
 | true =>
  have hks:=Hks.out rfl
  go_enter Try.func62,Try.ntmps62
  go_wp2_with fail
  have s0:=(St.start w).objN (.cells #[.int .i64 kind,.int .i64 zone,.int .i64 epoch,.int .i64 tt,.string key] 62) w.heap.size rfl
  refine (Hmy.out _).mono ?_
  rintro e w1 ⟨rfl,hb⟩
  have S1:=Lib.hid (s0.grow hb)
  obtain ⟨c1,c2,-⟩:=S1.out.cellsN 0 rfl
  clear s0 hb
  go_wp2_with fail
  have s2:=S1.out.newWr w1.heap.size rfl w.heap.size
  refine (s2.nums [kind,zone,epoch,tt] (w1.heap.size+1) 4 (by simp) rfl _ rfl (by simp)).mono ?_
  rintro e w2 ⟨rfl,o2,hS⟩
  have S3:=Lib.hid hS
  obtain ⟨d1,d2,-⟩:=S3.out.cellsN 1 rfl
  have hl:=encs_length [kind,zone,epoch,tt]
  simp only [List.length_cons,List.length_nil] at hl
  have g1:w.heap.size<w2.heap.size+1:=by omega
  clear s2 hS S1 c1 c2
  go_wp2_with fail
  refine (St.text1 S3.out key (by omega) (w2.heap.size+1) rfl w2.heap.size rfl (by simp only [List.nil_append];omega)).mono ?_
  rintro e w3 ⟨rfl,o3,hS⟩
  obtain ⟨X,hX⟩:∃ X,X=encC ⟨kind,zone,epoch,tt,key⟩:=⟨_,rfl⟩
  have S4:Hid (St w w3 [thWr w1.heap.size w.heap.size X o3,thObj w.heap.size (.cells #[.int .i64 kind,.int .i64 zone,.int .i64 epoch,.int .i64 tt,.string key] 62)]):=by
   rw [hX]
   exact Lib.hid hS
  have hXl:X.length≤140737488351232:=by
   rw [hX]
   have:=encS_length key
   unfold encC
   rw [List.length_append]
   dsimp only
   omega
  have HX:=Lib.hid hX
  clear S3 hS d1 d2 g1 hX hl
  go_wp2_with fail
  refine (out_any w1.heap.size w.heap.size X o3 w3 S4.out.head hXl).mono ?_
  rintro e w5 ⟨ao,cap,rfl,ho,hb⟩
  have Ho:=Lib.hid (own_weak ho S4.out.b.size)
  have Hb:=Lib.hid (S4.out.grow hb).b
  clear ho hb
  go_wp2_with fail
  go_ret2
  unfold EncCPost
  rw [if_pos Hq.out.symm,←HX.out]
  exact ⟨Hb.out,ao,cap,rfl,Ho.out⟩
end Go.Proofs.Ytogamdaomdoapaa.O
namespace Go.Proofs.Ytogamdaomdoapaa.O
open Go.RowKit
set_option maxRecDepth 20000
theorem size_data (s:ByteArray):s.data.toList.length=s.size:=by rw [Array.length_toList];rfl
theorem mayM_MB {m:Mp} (h:mayM m=true) (hs:SzB m):MB m:=by
 have h':=h
 unfold mayM at h'
 simp only [Bool.and_eq_true,decide_eq_true_eq] at h'
 obtain ⟨⟨h1,h2,h3,h4,h5⟩,h6,-⟩:=h'
 refine ⟨⟨by omega,by omega⟩,⟨by omega,by omega⟩,by omega,fun z hz=>?_⟩
 obtain ⟨i,hi,rfl⟩:=List.mem_iff_getElem.1 hz
 obtain ⟨a1,a2⟩:=zone_at h6 hi
 have hsz:=hs.2 _ hz
 have a1':=a1
 unfold headB at a1'
 rw [decide_eq_true_eq] at a1'
 obtain ⟨b1,b2,-,b4,b5,b6,b7⟩:=a1'
 have hk:(0≤m.zs[i].pend∧m.zs[i].pend≤3)∧(0≤m.zs[i].tt∧m.zs[i].tt≤1048576)∧(0≤m.zs[i].nw∧m.zs[i].nw≤1099511627776):=by
  unfold kindB at a2
  split at a2
  ·rw [decide_eq_true_eq] at a2;omega
  ·split at a2
   ·rw [decide_eq_true_eq] at a2;omega
   ·split at a2
    ·unfold splitsB at a2
     simp only [Bool.and_eq_true,decide_eq_true_eq] at a2
     omega
    ·split at a2
     ·unfold mergesB at a2
      cases hf:findZ m.zs m.zs[i].nw with
      | none=>rw [hf] at a2;cases a2
      | some j =>
       rw [hf] at a2
       simp only [Bool.and_eq_true,decide_eq_true_eq] at a2
       obtain ⟨y,hy,hyid,-⟩:=find_some hf
       obtain ⟨hjl,hje⟩:=List.getElem?_eq_some_iff.1 hy
       have hj:=(zone_at h6 hjl).1
       unfold headB at hj
       rw [decide_eq_true_eq,hje,hyid] at hj
       omega
     ·cases a2
 refine ⟨⟨by omega,by omega⟩,⟨by omega,by omega⟩,⟨by omega,by omega⟩,⟨by omega,by omega⟩,⟨by omega,by omega⟩,⟨by omega,by omega⟩,?_,?_,?_⟩
 ·rw [size_data];omega
 ·rw [size_data];omega
 ·rw [size_data];omega
theorem good_enc {m:Mp} (h:mayM m=true) (hs:SzB m):goodM (encM m)=true∧(decM (encM m)).1=m:=by
 have e:=dec_enc (mayM_MB h hs)
 unfold goodM
 rw [e]
 exact ⟨by rw [h];rfl,rfl⟩
def xM (l:List UInt8):Mp:=if goodM l=true then (decM l).1 else ⟨0,0,[]⟩
def eM (l:List UInt8):Int:=if goodM l=true then 0 else 3
def xE (c:Ch):List UInt8:=if mayC c=true then encC c else []
theorem decM_one {w:World} {l:List UInt8} {e:Ending} {w':World} (h:DecMPost w l (.int .i64 0) (.int .i64 3) e w'):Below w.heap.size w w'∧∃ zo zc,e=.returned (.tuple #[.agg #[.int .i64 (xM l).ver,.int .i64 (xM l).next,.slice zo (xM l).zs.length zc],.int .i64 (eM l)])∧ZsAt w' zo (xM l).zs:=by
 obtain ⟨hb,h⟩:=h
 refine ⟨hb,?_⟩
 unfold xM eM
 split at h
 ·rename_i hg
  obtain ⟨zo,zc,he,hz,-⟩:=h
  rw [if_pos hg,if_pos hg]
  exact ⟨zo,zc,he,hz⟩
 ·rename_i hg
  rw [if_neg hg,if_neg hg]
  exact ⟨none,0,h,fun hp=>by simp at hp⟩
theorem xE_length (c:Ch):(xE c).length≤100:=by
 unfold xE
 split
 ·rename_i h
  have h1:=encs_length [c.kind,c.zone,c.epoch,c.tt]
  have h2:=encS_length c.key
  have h3:=mayC_key h
  unfold encC
  rw [List.length_append]
  simp only [List.length_cons,List.length_nil] at h1
  omega
 ·simp
theorem encM_length {m:Mp} (h:LtB m.zs):(encM m).length≤18000:=by
 have h1:=encs_length [m.ver,m.next,(m.zs.length:Int)]
 obtain ⟨hl,hz⟩:=h
 have h2:∀ l:List Zn,(∀ z∈l,z.fr.size≤60∧z.to.size≤60∧z.key.size≤60)→(l.flatMap encZ).length≤270 * l.length:=by
  intro l
  induction l with
  | nil=>intro _;simp
  | cons z r ih =>
   intro hz
   have a:=ih fun y hy=>hz y (by simp [hy])
   obtain ⟨b1,b2,b3⟩:=hz z (by simp)
   have c1:=encs_length [z.id]
   have c2:=encs_length [z.owner,z.epoch,z.pend,z.tt]
   have c3:=encs_length [z.nw]
   have c4:=encS_length z.fr
   have c5:=encS_length z.to
   have c6:=encS_length z.key
   have e:(encZ z).length≤270:=by
    unfold encZ
    simp only [List.length_append,List.length_cons,List.length_nil] at c1 c2 c3 ⊢
    omega
   simp only [List.flatMap_cons,List.length_append,List.length_cons]
   omega
 have h3:=h2 m.zs hz
 unfold encM
 rw [List.length_append]
 simp only [List.length_cons,List.length_nil] at h1
 omega
theorem rdZs_len:∀ (k:Nat) (s:Rs),9 * (rdZs k s).1.length≤s.1.length+9
 | 0,s=>by simp [rdZs]
 | k+1,s=>by
  rw [rdZs_succ]
  by_cases hb:s.2=true
  ·rw [if_pos hb];simp
  ·rw [if_neg hb]
   have ih:=rdZs_len k (s6 s)
   simp only [List.length_cons]
   cases h6:(s6 s).2 with
   | false =>
    have:=s6_less h6
    omega
   | true =>
    have:(rdZs k (s6 s)).1=[]:=by
     cases k with
     | zero=>rfl
     | succ k=>rw [rdZs_succ,if_pos h6]
    rw [this]
    simp
theorem xM_length (l:List UInt8):9 * (xM l).zs.length≤l.length+9:=by
 unfold xM
 split
 ·have h1:=rdZs_len (rdVal l false 2) (rdSt l false 3)
  have h2:=rdSt_le l false 3
  have h3:(decM l).1.zs=(rdZs (rdVal l false 2) (rdSt l false 3)).1:=rfl
  rw [h3]
  omega
 ·simp
end Go.Proofs.Ytogamdaomdoapaa.O