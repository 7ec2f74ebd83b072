/- Texts put together: WIs, WTl, WKd. -/
import Derived.Test.YtogamdaomdoapaaGreatGa04
import Derived.Test.YtogamdaomdoapaaGreatGa05
import Derived.Test.YtogamdaomdoapaaGreatGa06
import Derived.Test.YtogamdaomdoapaaGreatGa07
import Derived.Test.YtogamdaomdoapaaGreatGa08
import Derived.Test.YtogamdaomdoapaaGreatGa13
import Derived.Test.YtogamdaomdoapaaGreatGa18
namespace Go.Proofs.YtogamdaomdoapaaGreat.O
open Go.Value renaming int→aI,string→aS,bool→aB
open Go.IntKind renaming i64→aK
open Go renaming undef→J
open List renaming setIfInBounds_toArray→lA,set_cons_zero→lZ,set_cons_succ→lS
open Go.Lib renaming hid→uH
set_option maxRecDepth 20000
open Go.RowKit
set_option maxHeartbeats 4000000 in
theorem zeq_any (a1 a2:Option Addr) (k1 k2:Nat) (l m:List Zn) (w:World) (h1:ZsAt w a1 l) (h2:ZsAt w a2 m) (hm:l.length≤100000) :
 Calls Tryz.prog 135 #[.slice a1 l.length k1,.slice a2 m.length k2] w fun e w'=>e=.returned (aB (decide (l=m)))∧Below w.heap.size w w':=by
 by_cases hlm:l.length=m.length
 case neg =>
  have hne:decide (l=m)=false:=by rw [decide_eq_false_iff_not];rintro rfl;exact hlm rfl
  rw [hne]
  have hlm':((l.length:Int) != m.length)=true:=by rw [bne_iff_ne];omega
  clear hne
  go_enter Tryz.func135,Tryz.ntmps135
  go_wp2_with fail
  go_ret
  exact ⟨rfl,bg⟩
 have H1:=uH h1
 have H2:=uH h2
 rw [←hlm]
 obtain ⟨n,hn⟩:∃ n,n=l.length:=⟨_,rfl⟩
 obtain ⟨q,hq⟩:∃ q,q=decide (l=m):=⟨_,rfl⟩
 rw [←hn] at hm hlm ⊢
 rw [←hq]
 have Hn:=uH hn
 have Hm:=uH hlm
 have Hq:=uH hq
 clear h1 h2 hn hlm hq
 have e1:((n:Int) != n)=false:=by simp
 go_enter Tryz.func135,Tryz.ntmps135
 go_wp2_with fail
 go_loopw [13] (fun s wr=>∃ i:Nat,s=aI aK i∧i≤n∧Hid (∀ j (hj:j<l.length) (hj':j<m.length),j<i→l[j]=m[j])∧Hid (Below w.heap.size w wr)) (fun s _=>n - (intOf s).toNat)
 case atStart=>exact ⟨0,rfl,by omega,uH (fun j _ _ h=>by omega),uH (Below.refl _ _)⟩
 case round =>
  obtain ⟨i,rfl,hi,Hs,Hb⟩:=hrel
  have wr_b:=Hb.out
  by_cases hlt:i<n
  ·have hl1:i<l.length:=by have:=Hn.out;omega
   have hl2:i<m.length:=by have:=Hm.out;omega
   obtain ⟨g1,o1,rfl,hz1⟩:=H1.out (by omega)
   obtain ⟨g2,o2,rfl,hz2⟩:=H2.out (by omega)
   have u1:g1<wr.heap.size:=Nat.lt_of_lt_of_le hz1.lt wr_b.size
   have u2:g2<wr.heap.size:=Nat.lt_of_lt_of_le hz2.lt wr_b.size
   obtain ⟨z,hz⟩:∃ z,z=l[i]:=⟨_,rfl⟩
   obtain ⟨y,hy⟩:∃ y,y=m[i]:=⟨_,rfl⟩
   obtain ⟨d0,d1,d2,d3,d4,d5,d6,d7,d8⟩:=(hz1.grow wr_b).nine i hl1 z hz
   obtain ⟨f0,f1,f2,f3,f4,f5,f6,f7,f8⟩:=(hz2.grow wr_b).nine i hl2 y hy
   obtain ⟨r,hr⟩:∃ r,r=decide (z=y):=⟨_,rfl⟩
   have heq:=fun w=>eql_zn z y w r (by rw [x0y,hr])
   have Hr:Hid (r=true→l[i]=m[i]):=uH fun h=>by rw [←hz,←hy];rw [h] at hr;exact of_decide_eq_true hr.symm
   have Hf:Hid (r=false→q=false):=uH fun h=>by
    rw [Hq.out,decide_eq_false_iff_not]
    rintro rfl
    rw [h,hz,hy] at hr
    exact absurd rfl (of_decide_eq_false hr.symm)
   obtain ⟨wo,rfl⟩:∃ wo:World,wo=wr:=⟨_,rfl⟩
   clear hz hy hz1 hz2 hr
   cases r with
   | true =>
    go_wp2_with fail
    (refine grA ?_;(repeat (go_big_quiet_step (fail)));refine grN fun g0=>?_)
    go_wp2_with fail
    go_roundw
    case rel=>exact ⟨i+1,by go_num,by omega,uH (fun j hj hj' hji=>by
     by_cases e:j=i
     ·subst e;exact Hr.out trivial
     ·exact Hs.out j hj hj' (by omega)),uH (Hb.out.trans ((a0f wo g0).mono wr_b.size))⟩
    case measure=>simp [intOf];omega
   | false =>
    have hqf:=Hf.out rfl
    subst hqf
    go_wp2_with fail
    (refine grA ?_;(repeat (go_big_quiet_step (fail)));refine grN fun g0=>?_)
    go_wp2_with fail
    go_ret
    exact ⟨rfl,Hb.out.trans ((a0f wo g0).mono wr_b.size)⟩
  ·have hqt:q=true:=by
    rw [Hq.out,decide_eq_true_eq]
    refine List.ext_getElem (by rw [←Hn.out,Hm.out]) fun j hj hj'=>Hs.out j hj hj' ?_
    have:=Hn.out
    omega
   subst hqt
   go_wp2_with fail
   go_ret
   exact ⟨rfl,wr_b⟩
theorem isM_eq {m:Mp} (hs:SzB m):mayM m=(decide (eM (encM m)=0)&&decide ((xM (encM m)).ver=m.ver)&&decide ((xM (encM m)).next=m.next)&&decide ((xM (encM m)).zs=m.zs)):=by
 cases h:mayM m with
 | true =>
  obtain ⟨g,e⟩:=n0q h hs
  unfold eM xM
  rw [if_pos g,if_pos g,e]
  simp
 | false =>
  symm
  rw [Bool.eq_false_iff]
  intro ht
  simp only [Bool.and_eq_true,decide_eq_true_eq] at ht
  obtain ⟨⟨⟨h1,h2⟩,h3⟩,h4⟩:=ht
  unfold eM at h1
  split at h1
  ·rename_i hg
   unfold xM at h2 h3 h4
   rw [if_pos hg] at h2 h3 h4
   unfold e0f at hg
   simp only [Bool.and_eq_true] at hg
   have:(decM (encM m)).1=m:=by
    obtain ⟨a,b,c⟩:=m
    generalize (decM (encM ⟨a,b,c⟩)).1=x at *
    obtain ⟨x1,x2,x3⟩:=x
    simp only at h2 h3 h4
    rw [h2,h3,h4]
   rw [this,h] at hg
   exact absurd hg.2 (by simp)
  ·omega
structure MzB (m:Mp):Prop where
 sz:SzB m
 le:(encM m).length≤18000
 n:m.zs.length≤1000
theorem MzB.of {m:Mp} (h:LtB m.zs):MzB m:=⟨h.sz,r0a h,by have:=h.1;omega⟩
set_option maxHeartbeats 4000000 in
theorem x0p (ao:Option Addr) (zc:Nat) (m:Mp) (w:World) (h:ZsAt w ao m.zs) (hl:MzB m) :
 Calls Tryz.prog 108 #[.agg #[aI aK m.ver,aI aK m.next,.slice ao m.zs.length zc]] w fun e w'=>e=.returned (aB (mayM m))∧Below w.heap.size w w':=by
 have Hz:=uH h
 have Hpe:=uH (fun (w3:World) (hbw:Below w.heap.size w w3)=>k0u ao zc m w3 (Hz.out.grow hbw) hl.sz)
 have Hm:=uH (isM_eq hl.sz)
 have Hlt:=uH hl
 obtain ⟨X,hX⟩:∃ X,X=encM m:=⟨_,rfl⟩
 have hXl:X.length≤18000:=by rw [hX];exact hl.le
 have hxml:(xM X).zs.length≤100000:=by have:=o0c X;omega
 rw [←hX] at Hm Hpe
 obtain ⟨xm,hxm⟩:∃ xm,xm=xM X:=⟨_,rfl⟩
 obtain ⟨ex,hex⟩:∃ ex,ex=eM X:=⟨_,rfl⟩
 have hpd:=fun (yo:Option Addr) (yc:Nat) (w3:World) (h0:yo=none→X.length=0∧yc=0) (ha:BAt w3 yo X)=>(o0v yo yc X w3 h0 ha hXl).mono (fun e w' h=>n0v h)
 rw [←hxm,←hex] at hpd Hm
 rw [←hxm] at hxml
 have Hpd:=uH hpd
 obtain ⟨n,hn⟩:∃ n,n=m.zs.length:=⟨_,rfl⟩
 obtain ⟨nx,hnx⟩:∃ nx,nx=m.next:=⟨_,rfl⟩
 obtain ⟨ver,hver⟩:∃ ver,ver=m.ver:=⟨_,rfl⟩
 obtain ⟨q,hq⟩:∃ q,q=mayM m:=⟨_,rfl⟩
 rw [←hn,←hnx,←hver] at Hpe ⊢
 rw [←hq,←hnx,←hver] at Hm
 rw [←hq]
 have Hn:=uH hn
 clear h hl hpd hX hxm hex hn hnx hver hq
 go_enter Tryz.func108,Tryz.ntmps108
 go_wp2_with fail
 have S0:Hid (St w _ [a0c w.heap.size (.cells #[aI aK ver,aI aK nx,.slice ao n zc] 44)]):=(St.start w).objN (.cells #[aI aK ver,aI aK nx,.slice ao n zc] 44) w.heap.size rfl
 refine (Hpe.out _ S0.out.b).mono ?_
 rintro e w1 ⟨yo,yc,rfl,ho,hb1⟩
 have S1:=uH (S0.out.grow hb1)
 have Hk0:=uH ho.none
 have Hka:=uH ho.at
 clear hb1 ho S0
 go_wp2_with fail
 refine (Hpd.out yo yc w1 Hk0.out Hka.out).mono ?_
 rintro e w2 ⟨hb2,zu,zuc,rfl,hzu⟩
 have S2:=uH (S1.out.grow hb2)
 have Hzu:=uH hzu
 clear hb2 hzu S1 Hk0 Hka
 obtain ⟨c1,c2,-⟩:=S2.out.a0b 0 rfl
 have w2_b:=S2.out.b
 by_cases t1:ex=0
 case neg =>
  have hqf:q=false:=by rw [Hm.out,decide_eq_false t1];simp
  have t1':(ex==0)=false:=by rw [beq_eq_false_iff_ne];exact t1
  subst hqf
  go_wp2_with fail
  go_ret
  exact ⟨rfl,bg⟩
 by_cases t2:xm.ver=ver
 case neg =>
  have hqf:q=false:=by rw [Hm.out,decide_eq_false t2];simp
  have t2':(xm.ver==ver)=false:=by rw [beq_eq_false_iff_ne];exact t2
  subst hqf t1
  go_wp2_with fail
  go_ret
  exact ⟨rfl,bg⟩
 by_cases t3:xm.next=nx
 case neg =>
  have hqf:q=false:=by rw [Hm.out,decide_eq_false t3];simp
  have t3':(xm.next==nx)=false:=by rw [beq_eq_false_iff_ne];exact t3
  subst hqf t1 t2
  go_wp2_with fail
  go_ret
  exact ⟨rfl,bg⟩
 have Hq:Hid (q=decide (xm.zs=m.zs)):=uH (by rw [Hm.out,decide_eq_true t1,decide_eq_true t2,decide_eq_true t3];simp)
 subst t1 t2 t3
 clear Hm
 go_wp2_with fail
 have S3:=uH (S2.out.grow (a0p w2 (.cells #[aI aK xm.ver,aI aK xm.next,.slice zu xm.zs.length zuc] 44)))
 have hze:=zeq_any zu ao zuc zc xm.zs m.zs _ (Hzu.out.grow (a0p w2 (.cells #[aI aK xm.ver,aI aK xm.next,.slice zu xm.zs.length zuc] 44))) (Hz.out.grow S3.out.b) hxml
 rw [←Hn.out] at hze
 refine hze.mono ?_
 rintro e w4 ⟨rfl,hb4⟩
 have w4_b:=(S3.out.grow hb4).b
 go_wp2_with fail
 go_ret
 refine ⟨?_,w4_b⟩
 rw [Hq.out]
 rfl
set_option maxHeartbeats 4000000 in
theorem p0g (c:Ch) (w:World):Calls Tryz.prog 109 #[.agg #[aI aK c.kind,aI aK c.zone,aI aK c.epoch,aI aK c.tt,aS c.key]] w fun e w'=>e=.returned (aB (mayC c))∧Below w.heap.size w w':=by
 have Hpc:=uH (fun w3=>o0u c w3)
 go_enter Tryz.func109,Tryz.ntmps109
 go_wp2_with fail
 have S0:Hid (St w _ [a0c w.heap.size (.cells #[aI aK c.kind,aI aK c.zone,aI aK c.epoch,aI aK c.tt,aS c.key] 46)]):=(St.start w).objN _ w.heap.size rfl
 refine (Hpc.out _).mono ?_
 rintro e w1 ⟨hb1,h⟩
 have w1_b:=(S0.out.grow hb1).b
 clear hb1 S0 Hpc
 cases hm:mayC c with
 | true =>
  rw [if_pos hm] at h
  obtain ⟨ao,cap,rfl,-⟩:=h
  go_wp2_with fail
  go_ret
  refine ⟨?_,w1_b⟩
  rw [hm]
  rfl
 | false =>
  rw [if_neg (by rw [hm];simp)] at h
  subst h
  go_wp2_with fail
  go_ret
  refine ⟨?_,w1_b⟩
  rw [hm]
  rfl
end Go.Proofs.YtogamdaomdoapaaGreat.O
namespace Go.Proofs.YtogamdaomdoapaaGreat
open Go.Value renaming int→aI,string→aS,bool→aB
open Go.IntKind renaming i64→aK
open Go renaming undef→J
open List renaming setIfInBounds_toArray→lA,set_cons_zero→lZ,set_cons_succ→lS
open Go.Lib renaming hid→uH
set_option maxRecDepth 20000
open Go.RowKit
def sndC:Code→Code | .seq _ y=>y | c=>c
def fstC:Code→Code | .seq x _=>x | c=>c
def mayQ (w:World) (r:Bool):Exit→Act→World→Prop:=bodyPost Tryz.prog Tryz.f69 fun e w'=>e=.returned (aB r)∧Below w.heap.size w w'
theorem plain_v {d:Wd} {ms ds:Value} {V:Array Value} (hV:V=wdV d ms ds) (w:World):Calls Tryz.prog 113 #[.agg V] w fun e w'=>e=.returned (.agg (plV d.pl))∧Below w.heap.size w w':=by
 subst hV
 exact w0q d ms ds w
theorem c0k {w:World} {B:Nat} {V:Array Value} {d:Wd} {ms ds:Value} (h:w.heap[B]?=some (.cells V 85 (0,0))) (hV:V=wdV d ms ds):w.cell? ⟨B,36,none⟩=some ds:=by
 rw [cell_of_row _ _ _ _ _ _ h,hV]
 rfl
set_option maxHeartbeats 4000000 in
theorem may_tail {c:Code} (hb:(Tryz.f69).body=some c) {d:Wd} {ms ds:Value} {V:Array Value} (hV:V=wdV d ms ds) (dl:Option Addr) (dc:Nat) (n:Nat) (hds:ds=.slice dl n dc) (hn:n≤9223372036854775807) (w w3:World) (B P:Nat) (X:Pl) (ok dB mB hdB hmB:Bool)
 (H:Hid (St w w3 [a0c P (.cells (plV X) 173 (0,0)),a0c B (.cells V 85 (0,0))])) (r:Bool) (hr:r=(ok&&eqPl d.pl X&&(dB==hdB)&&(mB==hmB)&&decide (n≤131072)))
 {j9 j10 j11 j12 j13 j14 j15 j16 j17 j18 j19 j20 j21 j22 j23 j24 j25 j26 j27 j28 j29 j30 j31 j32 j33 j34 j35 j36 j37 j38 j39 j40 j41 j42 j43 j44 j45 j46 j47 j48 j49 j50 j51 j52 j53 j54 j55 j56 j57 j58 j59 j60 j61 j62 j63 j64 j65 j66 j67 j68 j69 j70 j71 j72 j73 j74 j75 j76 j77 j78 j79 j80 j81 j82 j83 j84 j85 j86 j87 j88 j89 j90 j91 j92 j93 j94 j95 j96 j97 j98 j99 j100 j101 j102 j103 j104 j105 j106 j107 j108 j109 j110 j111 j112 j113 j114 j115 j116 j117 j118 j119 j120 j121 j122 j123 j124 j125 j126 j127 j128 j129 j130 j131 j132 j133 j134 j135 j136 j137 j138 j139 j140 j141 j142 j143 j144 j145 j146 j147:Value}:(sndC (sndC (sndC (sndC (sndC c))))).wp Tryz.prog (mayQ w r) { tmps:=#[.agg V,.pointer (some ⟨B,0,none⟩),aB false,aB dB,aB mB,.pointer (some ⟨P,0,none⟩),aB ok,aB hdB,aB hmB,j9,j10,j11,j12,j13,j14,j15,j16,j17,j18,j19,j20,j21,j22,j23,j24,j25,j26,j27,j28,j29,j30,j31,j32,j33,j34,j35,j36,j37,j38,j39,j40,j41,j42,j43,j44,j45,j46,j47,j48,j49,j50,j51,j52,j53,j54,j55,j56,j57,j58,j59,j60,j61,j62,j63,j64,j65,j66,j67,j68,j69,j70,j71,j72,j73,j74,j75,j76,j77,j78,j79,j80,j81,j82,j83,j84,j85,j86,j87,j88,j89,j90,j91,j92,j93,j94,j95,j96,j97,j98,j99,j100,j101,j102,j103,j104,j105,j106,j107,j108,j109,j110,j111,j112,j113,j114,j115,j116,j117,j118,j119,j120,j121,j122,j123,j124,j125,j126,j127,j128,j129,j130,j131,j132,j133,j134,j135,j136,j137,j138,j139,j140,j141,j142,j143,j144,j145,j146,j147,J,J,J,J,J,J,J,J,J,J,J,J,J,J,J,J,J,J,J,J,J,J,J],defers:=[] } w3:=by
 have hs:V.size=37:=by rw [hV];rfl
 have HV:=uH hV
 obtain ⟨b1,hb1⟩:∃ b1,(dB==hdB)=b1:=⟨_,rfl⟩
 obtain ⟨b2,hb2⟩:∃ b2,(mB==hmB)=b2:=⟨_,rfl⟩
 obtain ⟨b3,hb3⟩:∃ b3,decide (n≤131072)=b3:=⟨_,rfl⟩
 have hb4:decide ((n:Int)≤131072)=b3:=by rw [←hb3];congr 1;simp only [eq_iff_iff];omega
 rw [hb1,hb2,hb3] at hr
 clear hb3
 have Hr:=uH hr
 have heq:=fun w=>eql_pl d.pl X w _ rfl
 obtain ⟨q,hq⟩:∃ q,q=eqPl d.pl X:=⟨_,rfl⟩
 rw [←hq] at heq Hr
 have Hpl:=uH (fun w=>plain_v hV w)
 subst hds
 clear hr hV hq
 cases hb
 simp only [sndC]
 unfold mayQ
 refine wp_seq ?_
 cases ok with
 | false =>
  (refine grA ?_;(repeat (go_big_quiet_step (fail)));refine grN fun g=>?_)
  go_wp2_with fail
  go_ret
  exact ⟨by rw [Hr.out];rfl,(H.out.grow (a0f w3 g)).b⟩
 | true =>
  refine a0d fun wa hwa=>?_
  subst hwa
  obtain ⟨wd,hwd⟩:∃ wd,wd=wa.drew:=⟨_,rfl⟩
  have S2:=uH (H.out.grow (w':=wd) (by rw [hwd];exact (Below.refl _ _).drew))
  have Hsu:Hid (∀ w',Below wd.heap.size wd w'→(fun W:World=>W.heap[B]?=some (.cells V 85 (0,0))∧W.heap[P]?=some (.cells (plV X) 173 (0,0))) w'):=uH fun w' hb=>⟨(S2.out.grow hb).pull (A:=[_]) |>.head,(S2.out.grow hb).head⟩
  have HC:=uH (Hsu.out wd (Below.refl _ _))
  refine wp_region_noPanic ?_
  refine wp_region_held (S:=(fun W:World=>W.heap[B]?=some (.cells V 85 (0,0))∧W.heap[P]?=some (.cells (plV X) 173 (0,0)))) (by kernel_rfl) ?_
  change wpAnyH _ _ _ _ _ _ _ _ (World.drew _)
  rw [←hwd]
  clear hwd
  (refine takeD (i:=0) (v:=?v0x148) 148 rfl rfl (by kernel_rfl) (by kernel_rfl) (by kernel_rfl) (fun _ _ _ h=>h) (Or.inl ⟨by rfl,?hy0x148⟩) HC.out ?rest0x148;(case hy0x148=>(intro w hSw;(obtain ⟨t0,t1⟩:=hSw);go_simp;(try with_reducible rfl)));(try simp only [Act.put,lA,lZ,lS]))
  (refine takeD (i:=1) (v:=?v1x149) 149 rfl rfl (by kernel_rfl) (by kernel_rfl) (by kernel_rfl) (fun _ _ _ h=>h) (Or.inl ⟨by rfl,?hy1x149⟩) HC.out ?rest1x149;(case hy1x149=>(intro w hSw;(obtain ⟨t0,t1⟩:=hSw);go_simp;(try with_reducible rfl)));(try simp only [Act.put,lA,lZ,lS]))
  (refine tkD (i:=2) (v:=.agg V) 150 rfl (fun w hSw=>(by obtain ⟨t0,t1⟩:=hSw;exact d0x 85 _ rfl B rfl _ V _ _ t0 Tryz.underlying85 rfl (by rw [hs];kernel_rfl))) HC.out ?_;(try simp only [Act.put,lA,lZ,lS]))
  (refine tkD (i:=4) (v:=.agg (plV X)) 152 rfl (fun w hSw=>(by obtain ⟨t0,t1⟩:=hSw;exact d0x 173 _ rfl P rfl _ (plV X) _ _ t1 Tryz.underlying173 rfl (by kernel_rfl))) HC.out ?_;(try simp only [Act.put,lA,lZ,lS]))
  (refine oneD 3 rfl (fun K' hK'=>?_))
  go_simp
  refine (Hpl.out _).mono ?_
  rintro e w4 ⟨rfl,hb4⟩
  have S4:=uH (S2.out.grow hb4)
  have Hb4:=uH hb4
  refine hK' _ _ ⟨Hsu.out _ hb4,?_⟩
  clear hK' K' hb4 HC
  have HC:=uH (Hsu.out w4 Hb4.out)
  (try simp only [Act.put,lA,lZ,lS])
  cases q with
  | false =>
   (refine tkD (i:=5) (v:=aB false) 153 rfl (fun w hSw=>(by obtain ⟨t0,t1⟩:=hSw;have tb:=c0k t0 HV.out;go_simp)) HC.out ?_;(try simp only [Act.put,lA,lZ,lS]))
   (refine tkD (i:=6) (v:=aB false) 154 rfl (fun w hSw=>(by obtain ⟨t0,t1⟩:=hSw;have tb:=c0k t0 HV.out;go_simp)) HC.out ?_;(try simp only [Act.put,lA,lZ,lS]))
   (refine tkD (i:=7) (v:=aB false) 155 rfl (fun w hSw=>(by obtain ⟨t0,t1⟩:=hSw;have tb:=c0k t0 HV.out;go_simp)) HC.out ?_;(try simp only [Act.put,lA,lZ,lS]))
   (refine takeD (i:=8) (v:=J) 156 rfl rfl (by kernel_rfl) (by kernel_rfl) (by kernel_rfl) (fun _ _ _ h=>h) (Or.inr ⟨by rfl,rfl⟩) HC.out ?_;(try simp only [Act.put,lA,lZ,lS]))
   (refine takeD (i:=9) (v:=J) 157 rfl rfl (by kernel_rfl) (by kernel_rfl) (by kernel_rfl) (fun _ _ _ h=>h) (Or.inr ⟨by rfl,rfl⟩) HC.out ?_;(try simp only [Act.put,lA,lZ,lS]))
   (refine takeD (i:=10) (v:=J) 158 rfl rfl (by kernel_rfl) (by kernel_rfl) (by kernel_rfl) (fun _ _ _ h=>h) (Or.inr ⟨by rfl,rfl⟩) HC.out ?_;(try simp only [Act.put,lA,lZ,lS]))
   (refine tkD (i:=11) (v:=aB false) 159 rfl (fun w hSw=>(by obtain ⟨t0,t1⟩:=hSw;have tb:=c0k t0 HV.out;go_simp)) HC.out ?_;(try simp only [Act.put,lA,lZ,lS]))
   (refine tkD (i:=12) (v:=aB false) 160 rfl (fun w hSw=>(by obtain ⟨t0,t1⟩:=hSw;have tb:=c0k t0 HV.out;go_simp)) HC.out ?_;(try simp only [Act.put,lA,lZ,lS]))
   (refine takeD (i:=13) (v:=J) 161 rfl rfl (by kernel_rfl) (by kernel_rfl) (by kernel_rfl) (fun _ _ _ h=>h) (Or.inr ⟨by rfl,rfl⟩) HC.out ?_;(try simp only [Act.put,lA,lZ,lS]))
   (refine takeD (i:=14) (v:=J) 162 rfl rfl (by kernel_rfl) (by kernel_rfl) (by kernel_rfl) (fun _ _ _ h=>h) (Or.inr ⟨by rfl,rfl⟩) HC.out ?_;(try simp only [Act.put,lA,lZ,lS]))
   (refine takeD (i:=15) (v:=J) 163 rfl rfl (by kernel_rfl) (by kernel_rfl) (by kernel_rfl) (fun _ _ _ h=>h) (Or.inr ⟨by rfl,rfl⟩) HC.out ?_;(try simp only [Act.put,lA,lZ,lS]))
   (refine tkD (i:=16) (v:=aB false) 164 rfl (fun w hSw=>(by obtain ⟨t0,t1⟩:=hSw;have tb:=c0k t0 HV.out;go_simp)) HC.out ?_;(try simp only [Act.put,lA,lZ,lS]))
   ((refine tkD (i:=17) (v:=aB false) 165 rfl (fun w hSw=>(by obtain ⟨t0,t1⟩:=hSw;have tb:=c0k t0 HV.out;go_simp)) HC.out ?_;(try simp only [Act.put,lA,lZ,lS]));(refine takeD (i:=18) (v:=J) 166 rfl rfl (by kernel_rfl) (by kernel_rfl) (by kernel_rfl) (fun _ _ _ h=>h) (Or.inr ⟨by rfl,rfl⟩) HC.out ?_;(try simp only [Act.put,lA,lZ,lS]));(refine takeD (i:=19) (v:=J) 167 rfl rfl (by kernel_rfl) (by kernel_rfl) (by kernel_rfl) (fun _ _ _ h=>h) (Or.inr ⟨by rfl,rfl⟩) HC.out ?_;(try simp only [Act.put,lA,lZ,lS]));(refine takeD (i:=20) (v:=J) 168 rfl rfl (by kernel_rfl) (by kernel_rfl) (by kernel_rfl) (fun _ _ _ h=>h) (Or.inr ⟨by rfl,rfl⟩) HC.out ?_;(try simp only [Act.put,lA,lZ,lS]));(refine takeD (i:=21) (v:=J) 169 rfl rfl (by kernel_rfl) (by kernel_rfl) (by kernel_rfl) (fun _ _ _ h=>h) (Or.inr ⟨by rfl,rfl⟩) HC.out ?_;(try simp only [Act.put,lA,lZ,lS]));(refine tkD (i:=22) (v:=aB false) 170 rfl (fun w hSw=>(by obtain ⟨t0,t1⟩:=hSw;have tb:=c0k t0 HV.out;go_simp)) HC.out ?_;(try simp only [Act.put,lA,lZ,lS]));(refine tkD (i:=23) (v:=aB false) 2 rfl (fun w hSw=>(by obtain ⟨t0,t1⟩:=hSw;have tb:=c0k t0 HV.out;go_simp)) HC.out ?_;(try simp only [Act.put,lA,lZ,lS]));((refine wpAnyH_done (by kernel_rfl) ?_ _);(refine NoPanic.normal ?_);(go_wp2_with fail);go_ret;exact ⟨by rw [Hr.out];rfl,S4.out.b⟩))
  | true =>
   (refine tkD (i:=5) (v:=aB true) 153 rfl (fun w hSw=>(by obtain ⟨t0,t1⟩:=hSw;have tb:=c0k t0 HV.out;go_simp)) HC.out ?_;(try simp only [Act.put,lA,lZ,lS]))
   (refine tkD (i:=6) (v:=aB true) 154 rfl (fun w hSw=>(by obtain ⟨t0,t1⟩:=hSw;have tb:=c0k t0 HV.out;go_simp)) HC.out ?_;(try simp only [Act.put,lA,lZ,lS]))
   (refine tkD (i:=7) (v:=aB true) 155 rfl (fun w hSw=>(by obtain ⟨t0,t1⟩:=hSw;have tb:=c0k t0 HV.out;go_simp)) HC.out ?_;(try simp only [Act.put,lA,lZ,lS]))
   (refine tkD (i:=8) (v:=aB dB) 156 rfl (fun w hSw=>(by obtain ⟨t0,t1⟩:=hSw;have tb:=c0k t0 HV.out;go_simp)) HC.out ?_;(try simp only [Act.put,lA,lZ,lS]))
   (refine tkD (i:=9) (v:=aB hdB) 157 rfl (fun w hSw=>(by obtain ⟨t0,t1⟩:=hSw;have tb:=c0k t0 HV.out;go_simp)) HC.out ?_;(try simp only [Act.put,lA,lZ,lS]))
   cases b1 with
   | false =>
    (refine tkD (i:=10) (v:=aB false) 158 rfl (fun w hSw=>(by obtain ⟨t0,t1⟩:=hSw;have tb:=c0k t0 HV.out;go_simp)) HC.out ?_;(try simp only [Act.put,lA,lZ,lS]))
    (refine tkD (i:=11) (v:=aB false) 159 rfl (fun w hSw=>(by obtain ⟨t0,t1⟩:=hSw;have tb:=c0k t0 HV.out;go_simp)) HC.out ?_;(try simp only [Act.put,lA,lZ,lS]))
    (refine tkD (i:=12) (v:=aB false) 160 rfl (fun w hSw=>(by obtain ⟨t0,t1⟩:=hSw;have tb:=c0k t0 HV.out;go_simp)) HC.out ?_;(try simp only [Act.put,lA,lZ,lS]))
    (refine takeD (i:=13) (v:=J) 161 rfl rfl (by kernel_rfl) (by kernel_rfl) (by kernel_rfl) (fun _ _ _ h=>h) (Or.inr ⟨by rfl,rfl⟩) HC.out ?_;(try simp only [Act.put,lA,lZ,lS]))
    (refine takeD (i:=14) (v:=J) 162 rfl rfl (by kernel_rfl) (by kernel_rfl) (by kernel_rfl) (fun _ _ _ h=>h) (Or.inr ⟨by rfl,rfl⟩) HC.out ?_;(try simp only [Act.put,lA,lZ,lS]))
    (refine takeD (i:=15) (v:=J) 163 rfl rfl (by kernel_rfl) (by kernel_rfl) (by kernel_rfl) (fun _ _ _ h=>h) (Or.inr ⟨by rfl,rfl⟩) HC.out ?_;(try simp only [Act.put,lA,lZ,lS]))
    (refine tkD (i:=16) (v:=aB false) 164 rfl (fun w hSw=>(by obtain ⟨t0,t1⟩:=hSw;have tb:=c0k t0 HV.out;go_simp)) HC.out ?_;(try simp only [Act.put,lA,lZ,lS]))
    ((refine tkD (i:=17) (v:=aB false) 165 rfl (fun w hSw=>(by obtain ⟨t0,t1⟩:=hSw;have tb:=c0k t0 HV.out;go_simp)) HC.out ?_;(try simp only [Act.put,lA,lZ,lS]));(refine takeD (i:=18) (v:=J) 166 rfl rfl (by kernel_rfl) (by kernel_rfl) (by kernel_rfl) (fun _ _ _ h=>h) (Or.inr ⟨by rfl,rfl⟩) HC.out ?_;(try simp only [Act.put,lA,lZ,lS]));(refine takeD (i:=19) (v:=J) 167 rfl rfl (by kernel_rfl) (by kernel_rfl) (by kernel_rfl) (fun _ _ _ h=>h) (Or.inr ⟨by rfl,rfl⟩) HC.out ?_;(try simp only [Act.put,lA,lZ,lS]));(refine takeD (i:=20) (v:=J) 168 rfl rfl (by kernel_rfl) (by kernel_rfl) (by kernel_rfl) (fun _ _ _ h=>h) (Or.inr ⟨by rfl,rfl⟩) HC.out ?_;(try simp only [Act.put,lA,lZ,lS]));(refine takeD (i:=21) (v:=J) 169 rfl rfl (by kernel_rfl) (by kernel_rfl) (by kernel_rfl) (fun _ _ _ h=>h) (Or.inr ⟨by rfl,rfl⟩) HC.out ?_;(try simp only [Act.put,lA,lZ,lS]));(refine tkD (i:=22) (v:=aB false) 170 rfl (fun w hSw=>(by obtain ⟨t0,t1⟩:=hSw;have tb:=c0k t0 HV.out;go_simp)) HC.out ?_;(try simp only [Act.put,lA,lZ,lS]));(refine tkD (i:=23) (v:=aB false) 2 rfl (fun w hSw=>(by obtain ⟨t0,t1⟩:=hSw;have tb:=c0k t0 HV.out;go_simp)) HC.out ?_;(try simp only [Act.put,lA,lZ,lS]));((refine wpAnyH_done (by kernel_rfl) ?_ _);(refine NoPanic.normal ?_);(go_wp2_with fail);go_ret;exact ⟨by rw [Hr.out];rfl,S4.out.b⟩))
   | true =>
    (refine tkD (i:=10) (v:=aB true) 158 rfl (fun w hSw=>(by obtain ⟨t0,t1⟩:=hSw;have tb:=c0k t0 HV.out;go_simp)) HC.out ?_;(try simp only [Act.put,lA,lZ,lS]))
    (refine tkD (i:=11) (v:=aB true) 159 rfl (fun w hSw=>(by obtain ⟨t0,t1⟩:=hSw;have tb:=c0k t0 HV.out;go_simp)) HC.out ?_;(try simp only [Act.put,lA,lZ,lS]))
    (refine tkD (i:=12) (v:=aB true) 160 rfl (fun w hSw=>(by obtain ⟨t0,t1⟩:=hSw;have tb:=c0k t0 HV.out;go_simp)) HC.out ?_;(try simp only [Act.put,lA,lZ,lS]))
    (refine tkD (i:=13) (v:=aB mB) 161 rfl (fun w hSw=>(by obtain ⟨t0,t1⟩:=hSw;have tb:=c0k t0 HV.out;go_simp)) HC.out ?_;(try simp only [Act.put,lA,lZ,lS]))
    (refine tkD (i:=14) (v:=aB hmB) 162 rfl (fun w hSw=>(by obtain ⟨t0,t1⟩:=hSw;have tb:=c0k t0 HV.out;go_simp)) HC.out ?_;(try simp only [Act.put,lA,lZ,lS]))
    cases b2 with
    | false =>
     (refine tkD (i:=15) (v:=aB false) 163 rfl (fun w hSw=>(by obtain ⟨t0,t1⟩:=hSw;have tb:=c0k t0 HV.out;go_simp)) HC.out ?_;(try simp only [Act.put,lA,lZ,lS]))
     (refine tkD (i:=16) (v:=aB false) 164 rfl (fun w hSw=>(by obtain ⟨t0,t1⟩:=hSw;have tb:=c0k t0 HV.out;go_simp)) HC.out ?_;(try simp only [Act.put,lA,lZ,lS]))
     ((refine tkD (i:=17) (v:=aB false) 165 rfl (fun w hSw=>(by obtain ⟨t0,t1⟩:=hSw;have tb:=c0k t0 HV.out;go_simp)) HC.out ?_;(try simp only [Act.put,lA,lZ,lS]));(refine takeD (i:=18) (v:=J) 166 rfl rfl (by kernel_rfl) (by kernel_rfl) (by kernel_rfl) (fun _ _ _ h=>h) (Or.inr ⟨by rfl,rfl⟩) HC.out ?_;(try simp only [Act.put,lA,lZ,lS]));(refine takeD (i:=19) (v:=J) 167 rfl rfl (by kernel_rfl) (by kernel_rfl) (by kernel_rfl) (fun _ _ _ h=>h) (Or.inr ⟨by rfl,rfl⟩) HC.out ?_;(try simp only [Act.put,lA,lZ,lS]));(refine takeD (i:=20) (v:=J) 168 rfl rfl (by kernel_rfl) (by kernel_rfl) (by kernel_rfl) (fun _ _ _ h=>h) (Or.inr ⟨by rfl,rfl⟩) HC.out ?_;(try simp only [Act.put,lA,lZ,lS]));(refine takeD (i:=21) (v:=J) 169 rfl rfl (by kernel_rfl) (by kernel_rfl) (by kernel_rfl) (fun _ _ _ h=>h) (Or.inr ⟨by rfl,rfl⟩) HC.out ?_;(try simp only [Act.put,lA,lZ,lS]));(refine tkD (i:=22) (v:=aB false) 170 rfl (fun w hSw=>(by obtain ⟨t0,t1⟩:=hSw;have tb:=c0k t0 HV.out;go_simp)) HC.out ?_;(try simp only [Act.put,lA,lZ,lS]));(refine tkD (i:=23) (v:=aB false) 2 rfl (fun w hSw=>(by obtain ⟨t0,t1⟩:=hSw;have tb:=c0k t0 HV.out;go_simp)) HC.out ?_;(try simp only [Act.put,lA,lZ,lS]));((refine wpAnyH_done (by kernel_rfl) ?_ _);(refine NoPanic.normal ?_);(go_wp2_with fail);go_ret;exact ⟨by rw [Hr.out];rfl,S4.out.b⟩))
    | true =>
     (refine tkD (i:=15) (v:=aB true) 163 rfl (fun w hSw=>(by obtain ⟨t0,t1⟩:=hSw;have tb:=c0k t0 HV.out;go_simp)) HC.out ?_;(try simp only [Act.put,lA,lZ,lS]))
     (refine tkD (i:=16) (v:=aB true) 164 rfl (fun w hSw=>(by obtain ⟨t0,t1⟩:=hSw;have tb:=c0k t0 HV.out;go_simp)) HC.out ?_;(try simp only [Act.put,lA,lZ,lS]))
     (refine tkD (i:=17) (v:=aB true) 165 rfl (fun w hSw=>(by obtain ⟨t0,t1⟩:=hSw;have tb:=c0k t0 HV.out;go_simp)) HC.out ?_;(try simp only [Act.put,lA,lZ,lS]))
     (refine tkD (i:=18) (v:=.pointer (some ⟨B,36,none⟩)) 166 rfl (fun w hSw=>(by obtain ⟨t0,t1⟩:=hSw;have tb:=c0k t0 HV.out;go_simp)) HC.out ?_;(try simp only [Act.put,lA,lZ,lS]))
     (refine tkD (i:=19) (v:=.slice dl n dc) 167 rfl (fun w hSw=>(by obtain ⟨t0,t1⟩:=hSw;have tb:=c0k t0 HV.out;go_simp)) HC.out ?_;(try simp only [Act.put,lA,lZ,lS]))
     (refine tkD (i:=20) (v:=aI aK n) 168 rfl (fun w hSw=>(by obtain ⟨t0,t1⟩:=hSw;have tb:=c0k t0 HV.out;go_simp)) HC.out ?_;(try simp only [Act.put,lA,lZ,lS]))
     (refine tkD (i:=21) (v:=aB b3) 169 rfl (fun w hSw=>(by obtain ⟨t0,t1⟩:=hSw;have tb:=c0k t0 HV.out;go_simp)) HC.out ?_;(try simp only [Act.put,lA,lZ,lS]))
     (refine tkD (i:=22) (v:=aB b3) 170 rfl (fun w hSw=>(by obtain ⟨t0,t1⟩:=hSw;have tb:=c0k t0 HV.out;go_simp)) HC.out ?_;(try simp only [Act.put,lA,lZ,lS]))
     (refine tkD (i:=23) (v:=aB b3) 2 rfl (fun w hSw=>(by obtain ⟨t0,t1⟩:=hSw;have tb:=c0k t0 HV.out;go_simp)) HC.out ?_;(try simp only [Act.put,lA,lZ,lS]))
     ((refine wpAnyH_done (by kernel_rfl) ?_ _);(refine NoPanic.normal ?_);(go_wp2_with fail);go_ret;exact ⟨by rw [Hr.out];rfl,S4.out.b⟩)
set_option maxRecDepth 20000
open Go.RowKit
def g0d (K2:Act→World→Prop) (w:World) (V:Array Value) (B P:Nat) (dB mB r:Bool) (d:Wd) (n:Nat):Prop :=
 ∀ (w3:World) (X:Pl) (ok hdB hmB:Bool) (j9 j10 j11 j12 j13 j14 j15 j16 j17 j18 j19 j20 j21 j22 j23 j24 j25 j26 j27 j28 j29 j30 j31 j32 j33 j34 j35 j36 j37 j38 j39 j40 j41 j42 j43 j44 j45 j46 j47 j48 j49 j50 j51 j52 j53 j54 j55 j56 j57 j58 j59 j60 j61 j62 j63 j64 j65 j66 j67 j68 j69 j70 j71 j72 j73 j74 j75 j76 j77 j78 j79 j80 j81 j82 j83 j84 j85 j86 j87 j88 j89 j90 j91 j92 j93 j94 j95 j96 j97 j98 j99 j100 j101 j102 j103 j104 j105 j106 j107 j108 j109 j110 j111 j112 j113 j114 j115 j116 j117 j118 j119 j120 j121 j122 j123 j124 j125 j126 j127 j128 j129 j130 j131 j132 j133 j134 j135 j136 j137 j138 j139 j140 j141 j142 j143 j144 j145 j146 j147:Value),St w w3 [a0c P (.cells (plV X) 173 (0,0)),a0c B (.cells V 85 (0,0))]→r=(ok&&eqPl d.pl X&&(dB==hdB)&&(mB==hmB)&&decide (n≤131072))→K2 { tmps:=#[.agg V,.pointer (some ⟨B,0,none⟩),aB false,aB dB,aB mB,.pointer (some ⟨P,0,none⟩),aB ok,aB hdB,aB hmB,j9,j10,j11,j12,j13,j14,j15,j16,j17,j18,j19,j20,j21,j22,j23,j24,j25,j26,j27,j28,j29,j30,j31,j32,j33,j34,j35,j36,j37,j38,j39,j40,j41,j42,j43,j44,j45,j46,j47,j48,j49,j50,j51,j52,j53,j54,j55,j56,j57,j58,j59,j60,j61,j62,j63,j64,j65,j66,j67,j68,j69,j70,j71,j72,j73,j74,j75,j76,j77,j78,j79,j80,j81,j82,j83,j84,j85,j86,j87,j88,j89,j90,j91,j92,j93,j94,j95,j96,j97,j98,j99,j100,j101,j102,j103,j104,j105,j106,j107,j108,j109,j110,j111,j112,j113,j114,j115,j116,j117,j118,j119,j120,j121,j122,j123,j124,j125,j126,j127,j128,j129,j130,j131,j132,j133,j134,j135,j136,j137,j138,j139,j140,j141,j142,j143,j144,j145,j146,j147,J,J,J,J,J,J,J,J,J,J,J,J,J,J,J,J,J,J,J,J,J,J,J],defers:=[] } w3
def KdSt (w wa:World) (B P:Nat) (V:Array Value):Prop:=St w wa [a0c P (.cells #[aI aK 0,aI aK 0,aI aK 0,aI aK 0,aI aK 0,aI aK 0,aI aK 0,aS ⟨#[]⟩,aS ⟨#[]⟩,aI aK 0,aI aK 0,aI aK 0,aS ⟨#[]⟩,aS ⟨#[]⟩,aS ⟨#[]⟩,aS ⟨#[]⟩,aI aK 0,aI aK 0,aI aK 0,aB false,aI aK 0,aI aK 0,aI aK 0,aI aK 0,aI aK 0,aI aK 0,aI aK 0,aI aK 0,aI aK 0,aI aK 0,aI aK 0,aS ⟨#[]⟩] 173 (0,0)),a0c B (.cells V 85 (0,0))]
def KdGo (c:Code) (K2:Act→World→Prop) (Q:Exit→Act→World→Prop) (V:Array Value) (B P:Nat) (dB mB:Bool) (wa:World):Prop:=∀ (j9 j10 j11 j12 j13 j14 j15 j16 j17 j18 j19 j20 j21 j22 j23 j24 j25 j26 j27 j28 j29:Value),(fstC (sndC (sndC (sndC (sndC c))))).wp Tryz.prog (Exit.then K2 Q) { tmps:=#[.agg V,.pointer (some ⟨B,0,none⟩),aB false,aB dB,aB mB,.pointer (some ⟨P,0,none⟩),aB false,aB false,aB false,j9,j10,j11,j12,j13,j14,j15,j16,j17,j18,j19,j20,j21,j22,j23,j24,j25,j26,j27,j28,j29,J,J,J,J,J,J,J,J,J,J,J,J,J,J,J,J,J,J,J,J,J,J,J,J,J,J,J,J,J,J,J,J,J,J,J,J,J,J,J,J,J,J,J,J,J,J,J,J,J,J,J,J,J,J,J,J,J,J,J,J,J,J,J,J,J,J,J,J,J,J,J,J,J,J,J,J,J,J,J,J,J,J,J,J,J,J,J,J,J,J,J,J,J,J,J,J,J,J,J,J,J,J,J,J,J,J,J,J,J,J,J,J,J,J,J,J,J,J,J,J,J,J,J,J,J,J,J,J,J,J,J,J,J,J,J,J,J,J,J,J,J],defers:=[] } wa
theorem a0k {P:Program} {md:Region.Mode} {ops:Array Oper} {Q:Exit→Act→World→Prop} {S:World→Prop} {fuel:Nat} {listed:Array Bool} {a:Act} {w:World} (h:∀ w3,w3=w→wpAnyH P md ops Q S fuel listed a w3):wpAnyH P md ops Q S fuel listed a w:=h w rfl
end Go.Proofs.YtogamdaomdoapaaGreat