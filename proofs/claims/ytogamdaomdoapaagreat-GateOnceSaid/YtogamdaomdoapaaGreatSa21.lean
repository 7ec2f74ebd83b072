/- Texts put together: WIs. -/
import Derived.Test.YtogamdaomdoapaaGreatSa08
import Derived.Test.YtogamdaomdoapaaGreatSa10
import Derived.Test.YtogamdaomdoapaaGreatSa20
namespace Go.Proofs.YtogamdaomdoapaaGreat.O
set_option maxRecDepth 20000
open Go.RowKit
set_option maxHeartbeats 4000000 in
theorem zeq_any (a1 a2:Option Addr) (k1 k2:Nat) (l m:List Zn) (w:World) (h1:ZsAt w a1 l) (h2:ZsAt w a2 m) (hm:l.length≤100000) :
 Calls Tryz.prog 135 #[.slice a1 l.length k1,.slice a2 m.length k2] w fun e w'=>e=.returned (.bool (decide (l=m)))∧Below w.heap.size w w':=by
 by_cases hlm:l.length=m.length
 case neg =>
  have hne:decide (l=m)=false:=by rw [decide_eq_false_iff_not];rintro rfl;exact hlm rfl
  rw [hne]
  have hlm':((l.length:Int) != m.length)=true:=by rw [bne_iff_ne];omega
  clear hne
  go_enter Tryz.func135,Tryz.ntmps135
  go_wp2_with fail
  go_ret
  exact ⟨rfl,bg⟩
 have H1:=Lib.hid h1
 have H2:=Lib.hid h2
 rw [←hlm]
 obtain ⟨n,hn⟩:∃ n,n=l.length:=⟨_,rfl⟩
 obtain ⟨q,hq⟩:∃ q,q=decide (l=m):=⟨_,rfl⟩
 rw [←hn] at hm hlm ⊢
 rw [←hq]
 have Hn:=Lib.hid hn
 have Hm:=Lib.hid hlm
 have Hq:=Lib.hid hq
 clear h1 h2 hn hlm hq
 have e1:((n:Int) != n)=false:=by simp
 go_enter Tryz.func135,Tryz.ntmps135
 go_wp2_with fail
 go_loopw [13] (fun s wr=>∃ i:Nat,s=.int .i64 i∧i≤n∧Hid (∀ j (hj:j<l.length) (hj':j<m.length),j<i→l[j]=m[j])∧Hid (Below w.heap.size w wr)) (fun s _=>n - (intOf s).toNat)
 case atStart=>exact ⟨0,rfl,by omega,Lib.hid (fun j _ _ h=>by omega),Lib.hid (Below.refl _ _)⟩
 case round =>
  obtain ⟨i,rfl,hi,Hs,Hb⟩:=hrel
  have wr_b:=Hb.out
  by_cases hlt:i<n
  ·have hl1:i<l.length:=by have:=Hn.out;omega
   have hl2:i<m.length:=by have:=Hm.out;omega
   obtain ⟨g1,o1,rfl,hz1⟩:=H1.out (by omega)
   obtain ⟨g2,o2,rfl,hz2⟩:=H2.out (by omega)
   have u1:g1<wr.heap.size:=Nat.lt_of_lt_of_le hz1.lt wr_b.size
   have u2:g2<wr.heap.size:=Nat.lt_of_lt_of_le hz2.lt wr_b.size
   obtain ⟨z,hz⟩:∃ z,z=l[i]:=⟨_,rfl⟩
   obtain ⟨y,hy⟩:∃ y,y=m[i]:=⟨_,rfl⟩
   obtain ⟨d0,d1,d2,d3,d4,d5,d6,d7,d8⟩:=(hz1.grow wr_b).nine i hl1 z hz
   obtain ⟨f0,f1,f2,f3,f4,f5,f6,f7,f8⟩:=(hz2.grow wr_b).nine i hl2 y hy
   obtain ⟨r,hr⟩:∃ r,r=decide (z=y):=⟨_,rfl⟩
   have heq:=fun w=>eql_zn z y w r (by rw [eqZ_iff,hr])
   have Hr:Hid (r=true→l[i]=m[i]):=Lib.hid fun h=>by rw [←hz,←hy];rw [h] at hr;exact of_decide_eq_true hr.symm
   have Hf:Hid (r=false→q=false):=Lib.hid fun h=>by
    rw [Hq.out,decide_eq_false_iff_not]
    rintro rfl
    rw [h,hz,hy] at hr
    exact absurd rfl (of_decide_eq_false hr.symm)
   obtain ⟨wo,rfl⟩:∃ wo:World,wo=wr:=⟨_,rfl⟩
   clear hz hy hz1 hz2 hr
   cases r with
   | true =>
    go_wp2_with fail
    (refine wp_region_gr (by kernel_rfl) (by kernel_rfl) ?_;(repeat (go_big_quiet_step (fail)));refine wpQuiet_nil ?_;intro _ hw';obtain ⟨g0,hw''⟩:=hw';subst hw'')
    go_wp2_with fail
    go_roundw
    case rel=>exact ⟨i+1,by go_num,by omega,Lib.hid (fun j hj hj' hji=>by
     by_cases e:j=i
     ·subst e;exact Hr.out trivial
     ·exact Hs.out j hj hj' (by omega)),Lib.hid (Hb.out.trans ((gr_below wo g0).mono wr_b.size))⟩
    case measure=>simp [intOf];omega
   | false =>
    have hqf:=Hf.out rfl
    subst hqf
    go_wp2_with fail
    (refine wp_region_gr (by kernel_rfl) (by kernel_rfl) ?_;(repeat (go_big_quiet_step (fail)));refine wpQuiet_nil ?_;intro _ hw';obtain ⟨g0,hw''⟩:=hw';subst hw'')
    go_wp2_with fail
    go_ret
    exact ⟨rfl,Hb.out.trans ((gr_below wo g0).mono wr_b.size)⟩
  ·have hqt:q=true:=by
    rw [Hq.out,decide_eq_true_eq]
    refine List.ext_getElem (by rw [←Hn.out,Hm.out]) fun j hj hj'=>Hs.out j hj hj' ?_
    have:=Hn.out
    omega
   subst hqt
   go_wp2_with fail
   go_ret
   exact ⟨rfl,wr_b⟩
theorem isM_eq {m:Mp} (hs:SzB m):mayM m=(decide (eM (encM m)=0)&&decide ((xM (encM m)).ver=m.ver)&&decide ((xM (encM m)).next=m.next)&&decide ((xM (encM m)).zs=m.zs)):=by
 cases h:mayM m with
 | true =>
  obtain ⟨g,e⟩:=good_enc h hs
  unfold eM xM
  rw [if_pos g,if_pos g,e]
  simp
 | false =>
  symm
  rw [Bool.eq_false_iff]
  intro ht
  simp only [Bool.and_eq_true,decide_eq_true_eq] at ht
  obtain ⟨⟨⟨h1,h2⟩,h3⟩,h4⟩:=ht
  unfold eM at h1
  split at h1
  ·rename_i hg
   unfold xM at h2 h3 h4
   rw [if_pos hg] at h2 h3 h4
   unfold goodM at hg
   simp only [Bool.and_eq_true] at hg
   have:(decM (encM m)).1=m:=by
    obtain ⟨a,b,c⟩:=m
    generalize (decM (encM ⟨a,b,c⟩)).1=x at *
    obtain ⟨x1,x2,x3⟩:=x
    simp only at h2 h3 h4
    rw [h2,h3,h4]
   rw [this,h] at hg
   exact absurd hg.2 (by simp)
  ·omega
structure MzB (m:Mp):Prop where
 sz:SzB m
 le:(encM m).length≤18000
 n:m.zs.length≤1000
theorem MzB.of {m:Mp} (h:LtB m.zs):MzB m:=⟨h.sz,encM_length h,by have:=h.1;omega⟩
set_option maxHeartbeats 4000000 in
theorem isMap_any (ao:Option Addr) (zc:Nat) (m:Mp) (w:World) (h:ZsAt w ao m.zs) (hl:MzB m) :
 Calls Tryz.prog 108 #[.agg #[.int .i64 m.ver,.int .i64 m.next,.slice ao m.zs.length zc]] w fun e w'=>e=.returned (.bool (mayM m))∧Below w.heap.size w w':=by
 have Hz:=Lib.hid h
 have Hpe:=Lib.hid (fun (w3:World) (hbw:Below w.heap.size w w3)=>pencM_any ao zc m w3 (Hz.out.grow hbw) hl.sz)
 have Hm:=Lib.hid (isM_eq hl.sz)
 have Hlt:=Lib.hid hl
 obtain ⟨X,hX⟩:∃ X,X=encM m:=⟨_,rfl⟩
 have hXl:X.length≤18000:=by rw [hX];exact hl.le
 have hxml:(xM X).zs.length≤100000:=by have:=xM_length X;omega
 rw [←hX] at Hm Hpe
 obtain ⟨xm,hxm⟩:∃ xm,xm=xM X:=⟨_,rfl⟩
 obtain ⟨ex,hex⟩:∃ ex,ex=eM X:=⟨_,rfl⟩
 have hpd:=fun (yo:Option Addr) (yc:Nat) (w3:World) (h0:yo=none→X.length=0∧yc=0) (ha:BAt w3 yo X)=>(pdecM_any yo yc X w3 h0 ha hXl).mono (fun e w' h=>decM_one h)
 rw [←hxm,←hex] at hpd Hm
 rw [←hxm] at hxml
 have Hpd:=Lib.hid hpd
 obtain ⟨n,hn⟩:∃ n,n=m.zs.length:=⟨_,rfl⟩
 obtain ⟨nx,hnx⟩:∃ nx,nx=m.next:=⟨_,rfl⟩
 obtain ⟨ver,hver⟩:∃ ver,ver=m.ver:=⟨_,rfl⟩
 obtain ⟨q,hq⟩:∃ q,q=mayM m:=⟨_,rfl⟩
 rw [←hn,←hnx,←hver] at Hpe ⊢
 rw [←hq,←hnx,←hver] at Hm
 rw [←hq]
 have Hn:=Lib.hid hn
 clear h hl hpd hX hxm hex hn hnx hver hq
 go_enter Tryz.func108,Tryz.ntmps108
 go_wp2_with fail
 have S0:Hid (St w _ [thObj w.heap.size (.cells #[.int .i64 ver,.int .i64 nx,.slice ao n zc] 44)]):=(St.start w).objN (.cells #[.int .i64 ver,.int .i64 nx,.slice ao n zc] 44) w.heap.size rfl
 refine (Hpe.out _ S0.out.b).mono ?_
 rintro e w1 ⟨yo,yc,rfl,ho,hb1⟩
 have S1:=Lib.hid (S0.out.grow hb1)
 have Hk0:=Lib.hid ho.none
 have Hka:=Lib.hid ho.at
 clear hb1 ho S0
 go_wp2_with fail
 refine (Hpd.out yo yc w1 Hk0.out Hka.out).mono ?_
 rintro e w2 ⟨hb2,zu,zuc,rfl,hzu⟩
 have S2:=Lib.hid (S1.out.grow hb2)
 have Hzu:=Lib.hid hzu
 clear hb2 hzu S1 Hk0 Hka
 obtain ⟨c1,c2,-⟩:=S2.out.cellsN 0 rfl
 have w2_b:=S2.out.b
 by_cases t1:ex=0
 case neg =>
  have hqf:q=false:=by rw [Hm.out,decide_eq_false t1];simp
  have t1':(ex==0)=false:=by rw [beq_eq_false_iff_ne];exact t1
  subst hqf
  go_wp2_with fail
  go_ret
  exact ⟨rfl,bg⟩
 by_cases t2:xm.ver=ver
 case neg =>
  have hqf:q=false:=by rw [Hm.out,decide_eq_false t2];simp
  have t2':(xm.ver==ver)=false:=by rw [beq_eq_false_iff_ne];exact t2
  subst hqf t1
  go_wp2_with fail
  go_ret
  exact ⟨rfl,bg⟩
 by_cases t3:xm.next=nx
 case neg =>
  have hqf:q=false:=by rw [Hm.out,decide_eq_false t3];simp
  have t3':(xm.next==nx)=false:=by rw [beq_eq_false_iff_ne];exact t3
  subst hqf t1 t2
  go_wp2_with fail
  go_ret
  exact ⟨rfl,bg⟩
 have Hq:Hid (q=decide (xm.zs=m.zs)):=Lib.hid (by rw [Hm.out,decide_eq_true t1,decide_eq_true t2,decide_eq_true t3];simp)
 subst t1 t2 t3
 clear Hm
 go_wp2_with fail
 have S3:=Lib.hid (S2.out.grow (below_allocO w2 (.cells #[.int .i64 xm.ver,.int .i64 xm.next,.slice zu xm.zs.length zuc] 44)))
 have hze:=zeq_any zu ao zuc zc xm.zs m.zs _ (Hzu.out.grow (below_allocO w2 (.cells #[.int .i64 xm.ver,.int .i64 xm.next,.slice zu xm.zs.length zuc] 44))) (Hz.out.grow S3.out.b) hxml
 rw [←Hn.out] at hze
 refine hze.mono ?_
 rintro e w4 ⟨rfl,hb4⟩
 have w4_b:=(S3.out.grow hb4).b
 go_wp2_with fail
 go_ret
 refine ⟨?_,w4_b⟩
 rw [Hq.out]
 rfl
set_option maxHeartbeats 4000000 in
theorem isChange_any (c:Ch) (w:World):Calls Tryz.prog 109 #[.agg #[.int .i64 c.kind,.int .i64 c.zone,.int .i64 c.epoch,.int .i64 c.tt,.string c.key]] w fun e w'=>e=.returned (.bool (mayC c))∧Below w.heap.size w w':=by
 have Hpc:=Lib.hid (fun w3=>pencC_any c w3)
 go_enter Tryz.func109,Tryz.ntmps109
 go_wp2_with fail
 have S0:Hid (St w _ [thObj w.heap.size (.cells #[.int .i64 c.kind,.int .i64 c.zone,.int .i64 c.epoch,.int .i64 c.tt,.string c.key] 46)]):=(St.start w).objN _ w.heap.size rfl
 refine (Hpc.out _).mono ?_
 rintro e w1 ⟨hb1,h⟩
 have w1_b:=(S0.out.grow hb1).b
 clear hb1 S0 Hpc
 cases hm:mayC c with
 | true =>
  rw [if_pos hm] at h
  obtain ⟨ao,cap,rfl,-⟩:=h
  go_wp2_with fail
  go_ret
  refine ⟨?_,w1_b⟩
  rw [hm]
  rfl
 | false =>
  rw [if_neg (by rw [hm];simp)] at h
  subst h
  go_wp2_with fail
  go_ret
  refine ⟨?_,w1_b⟩
  rw [hm]
  rfl
end Go.Proofs.YtogamdaomdoapaaGreat.O