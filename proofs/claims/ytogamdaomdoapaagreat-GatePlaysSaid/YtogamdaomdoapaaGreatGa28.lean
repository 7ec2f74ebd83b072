/- Texts put together: Dec, RepD. -/
import Derived.Test.YtogamdaomdoapaaGreatGa05
import Derived.Test.YtogamdaomdoapaaGreatGa06
import Derived.Test.YtogamdaomdoapaaGreatGa09
import Derived.Test.YtogamdaomdoapaaGreatGa15
import Derived.Test.YtogamdaomdoapaaGreatGa25
namespace Go.Proofs.YtogamdaomdoapaaGreat
open Go.Value renaming int→aI,string→aS,bool→aB
open Go.IntKind renaming i64→aK
open Go.Lib renaming hid→uH
open Go.RowKit
theorem f0q (ao bo:Option Addr) (ca cb:Nat) (a b:List UInt8) (w:World) (ha:BAt w ao a) (hb:BAt w bo b) :
 Calls Tryz.prog 53 #[.slice ao a.length ca,.slice bo b.length cb] w fun e w'=>e=.returned (aB (a==b))∧w=w':=by
 have h1:=b0c ha ca
 have h2:=b0c hb cb
 clear ha hb
 go_enter Tryz.func53,Tryz.ntmps53
 go_wp2_with fail
 go_ret
 exact ⟨rfl,rfl⟩
def j0m (w:World) (l:List UInt8) (e:Ending) (w':World):Prop:=Below w.heap.size w w' ∧
 if goodD l=true then e=.returned (.tuple #[.agg #[aI aK (dqQ (decD l)).kind,aI aK (dqQ (decD l)).client,aI aK (dqQ (decD l)).seq,aS (dqQ (decD l)).key,aS (dqQ (decD l)).who,aS (dqQ (decD l)).tkey,aS (dqQ (decD l)).twho,aI aK (dqQ (decD l)).item,aI aK (dqQ (decD l)).count,aI aK (dqQ (decD l)).price,aB (dqQ (decD l)).buy,aI aK (dqQ (decD l)).id],aI aK 0]) else e=.returned (.tuple #[.agg #[aI aK 0,aI aK 0,aI aK 0,aS ⟨#[]⟩,aS ⟨#[]⟩,aS ⟨#[]⟩,aS ⟨#[]⟩,aI aK 0,aI aK 0,aI aK 0,aB false,aI aK 0],aI aK 3])
theorem r0r (l:List UInt8):(⟨l.toArray⟩:ByteArray).size=l.length:=by simp [ByteArray.size]
structure DIs (l:List UInt8) (d:Dq) (r3:List UInt8) (b3:Bool) (r4:List UInt8) (b4:Bool) (r5:List UInt8) (b5:Bool) (r6:List UInt8) (b6:Bool) (r7:List UInt8) (b7:Bool):Prop where
 qk:d.k=a0j l false 0
 qc:d.c=a0j l false 1
 qs:d.s=a0j l false 2
 q3:r3=(rdSt l false 3).1
 p3:b3=(rdSt l false 3).2
 ta:a0q r3 b3=(d.key,r4,b4)
 tb:a0q r4 b4=(d.who,r5,b5)
 tc:a0q r5 b5=(d.tkey,r6,b6)
 td:a0q r6 b6=(d.twho,r7,b7)
 qi:d.i=a0j r7 b7 0
 qn:d.n=a0j r7 b7 1
 qp:d.p=a0j r7 b7 2
 qb:d.b=a0j r7 b7 3
 qd:d.d=a0j r7 b7 4
 qr:d.rest=(rdSt r7 b7 5).1
 qx:d.bad=(rdSt r7 b7 5).2
 la:r3.length≤l.length
 lb:r4.length≤l.length
 lc:r5.length≤l.length
 ld:r6.length≤l.length
 le:r7.length≤l.length
theorem etaT (t:List UInt8 × List UInt8 × Bool):t=(t.1,t.2.1,t.2.2):=rfl
theorem e0k {s:List UInt8 × Bool} {t:List UInt8 × List UInt8 × Bool} (ht:t=a0q s.1 s.2):t.2.1.length≤s.1.length:=(d0n (show (t.1,t.2.1,t.2.2)=a0q s.1 s.2 from (etaT t).symm.trans ht)).2
theorem p0o (l:List UInt8):∃ d r3 b3 r4 b4 r5 b5 r6 b6 r7 b7,d=decD l∧DIs l d r3 b3 r4 b4 r5 b5 r6 b6 r7 b7:=by
 have h3:=b0f l false 3
 have h4:=e0k (s:=rdSt l false 3) (t:=tk1 l) rfl
 have h5:=e0k (s:=(tk1 l).2) (t:=tk2 l) rfl
 have h6:=e0k (s:=(tk2 l).2) (t:=tk3 l) rfl
 have h7:=e0k (s:=(tk3 l).2) (t:=tk4 l) rfl
 have e1:a0q (rdSt l false 3).1 (rdSt l false 3).2=((tk1 l).1,(tk1 l).2.1,(tk1 l).2.2):=etaT (tk1 l)
 have e2:a0q (tk1 l).2.1 (tk1 l).2.2=((tk2 l).1,(tk2 l).2.1,(tk2 l).2.2):=etaT (tk2 l)
 have e3:a0q (tk2 l).2.1 (tk2 l).2.2=((tk3 l).1,(tk3 l).2.1,(tk3 l).2.2):=etaT (tk3 l)
 have e4:a0q (tk3 l).2.1 (tk3 l).2.2=((tk4 l).1,(tk4 l).2.1,(tk4 l).2.2):=etaT (tk4 l)
 refine ⟨decD l,(rdSt l false 3).1,(rdSt l false 3).2,(tk1 l).2.1,(tk1 l).2.2,(tk2 l).2.1,(tk2 l).2.2,(tk3 l).2.1,(tk3 l).2.2,(tk4 l).2.1,(tk4 l).2.2,rfl,⟨by simp only [decD],by simp only [decD],by simp only [decD],rfl,rfl,by simp only [decD];exact e1,by simp only [decD];exact e2,by simp only [decD];exact e3,by simp only [decD];exact e4,by simp only [decD],by simp only [decD],by simp only [decD],by simp only [decD],by simp only [decD],by simp only [decD],by simp only [decD],h3,Nat.le_trans h4 h3,Nat.le_trans h5 (Nat.le_trans h4 h3),Nat.le_trans h6 (Nat.le_trans h5 (Nat.le_trans h4 h3)),Nat.le_trans h7 (Nat.le_trans h6 (Nat.le_trans h5 (Nat.le_trans h4 h3)))⟩⟩
set_option maxRecDepth 40000 in
set_option maxHeartbeats 4000000 in
theorem dec_any (ao:Option Addr) (cap:Nat) (l:List UInt8) (w:World) (h0:ao=none→l.length=0∧cap=0) (ha:BAt w ao l) (hm:l.length≤2000) :
 Calls Tryz.prog 86 #[.slice ao l.length cap] w (j0m w l):=by
 have Ha:=uH ha
 have H0:=uH h0
 have Hm:=uH hm
 clear ha h0
 go_enter Tryz.func86,Tryz.ntmps86
 go_wp2_with fail
 have S0:Hid (St w _ [a0c (w.heap.size+1+1) (.cells #[aI aK 0] 3 (0,0)),a0c (w.heap.size+1) (.cells #[aI aK 0,aI aK 0,aI aK 0,aS ⟨#[]⟩,aS ⟨#[]⟩,aS ⟨#[]⟩,aS ⟨#[]⟩,aI aK 0,aI aK 0,aI aK 0,aB false,aI aK 0] 30 (0,0)),a0c w.heap.size (.cells #[aI aK 0,aI aK 0,aI aK 0,aS ⟨#[]⟩,aS ⟨#[]⟩,aS ⟨#[]⟩,aS ⟨#[]⟩,aI aK 0,aI aK 0,aI aK 0,aB false,aI aK 0] 30 (0,0))]):=(((St.start w).objN (.cells #[aI aK 0,aI aK 0,aI aK 0,aS ⟨#[]⟩,aS ⟨#[]⟩,aS ⟨#[]⟩,aS ⟨#[]⟩,aI aK 0,aI aK 0,aI aK 0,aB false,aI aK 0] 30) w.heap.size rfl).objN (.cells #[aI aK 0,aI aK 0,aI aK 0,aS ⟨#[]⟩,aS ⟨#[]⟩,aS ⟨#[]⟩,aS ⟨#[]⟩,aI aK 0,aI aK 0,aI aK 0,aB false,aI aK 0] 30) (w.heap.size+1) (by simp)).objN (.cells #[aI aK 0] 3) (w.heap.size+1+1) (by simp)
 refine (d0u ao cap l _ H0.out (Ha.out.below S0.out.b) (by omega)).mono ?_
 rintro e w1 ⟨p,g,rfl,hr,hb,hp,hg⟩
 have S1:=uH (S0.out.x0d hr hb hp hg)
 clear S0 hr hb hp hg
 go_wp2_with fail
 refine (St.f0b (O:=[(w.heap.size+1+1,#[aI aK 0],3),(w.heap.size+1,#[aI aK 0,aI aK 0,aI aK 0,aS ⟨#[]⟩,aS ⟨#[]⟩,aS ⟨#[]⟩,aS ⟨#[]⟩,aI aK 0,aI aK 0,aI aK 0,aB false,aI aK 0],30),(w.heap.size,#[aI aK 0,aI aK 0,aI aK 0,aS ⟨#[]⟩,aS ⟨#[]⟩,aS ⟨#[]⟩,aS ⟨#[]⟩,aI aK 0,aI aK 0,aI aK 0,aB false,aI aK 0],30)]) (L:=[]) S1.out (by omega) [(1,0),(1,1),(1,2)] ?_ w1.heap.size 3 rfl rfl (by simp) _ _ rfl).mono ?_
 ·intro q hq
  simp only [List.mem_cons,List.not_mem_nil,or_false] at hq
  rcases hq with rfl | rfl | rfl<;>exact ⟨_,_,rfl,rfl⟩
 rintro e w2 ⟨rfl,hS⟩
 obtain ⟨d,r3,b3,r4,b4,r5,b5,r6,b6,r7,b7,hd,HI⟩:=p0o l
 have S2:Hid (St w w2 [thRd p g r3 b3,a0c (w.heap.size+1+1) (.cells #[aI aK 0] 3 (0,0)),a0c (w.heap.size+1) (.cells #[aI aK (d.k:Nat),aI aK (d.c:Nat),aI aK (d.s:Nat),aS ⟨#[]⟩,aS ⟨#[]⟩,aS ⟨#[]⟩,aS ⟨#[]⟩,aI aK 0,aI aK 0,aI aK 0,aB false,aI aK 0] 30 (0,0)),a0c w.heap.size (.cells #[aI aK 0,aI aK 0,aI aK 0,aS ⟨#[]⟩,aS ⟨#[]⟩,aS ⟨#[]⟩,aS ⟨#[]⟩,aI aK 0,aI aK 0,aI aK 0,aB false,aI aK 0] 30 (0,0))]):=by
  rw [HI.qk,HI.qc,HI.qs,HI.q3,HI.p3]
  exact hS
 have HI:=uH HI
 have Hd:=uH hd
 clear hS S1 hd
 go_wp2_with fail
 have S3:Hid (St w _ [thRd p g r3 b3,a0c w2.heap.size (.cells #[.pointer (some ⟨w.heap.size+1,3,none⟩),.pointer (some ⟨w.heap.size+1,4,none⟩),.pointer (some ⟨w.heap.size+1,5,none⟩),.pointer (some ⟨w.heap.size+1,6,none⟩)] 183 (0,0)),a0c (w.heap.size+1+1) (.cells #[aI aK 0] 3 (0,0)),a0c (w.heap.size+1) (.cells #[aI aK (d.k:Nat),aI aK (d.c:Nat),aI aK (d.s:Nat),aS ⟨#[]⟩,aS ⟨#[]⟩,aS ⟨#[]⟩,aS ⟨#[]⟩,aI aK 0,aI aK 0,aI aK 0,aB false,aI aK 0] 30 (0,0)),a0c w.heap.size (.cells #[aI aK 0,aI aK 0,aI aK 0,aS ⟨#[]⟩,aS ⟨#[]⟩,aS ⟨#[]⟩,aS ⟨#[]⟩,aI aK 0,aI aK 0,aI aK 0,aB false,aI aK 0] 30 (0,0))]):=(S2.out.objN (.cells #[.pointer (some ⟨w.heap.size+1,3,none⟩),.pointer (some ⟨w.heap.size+1,4,none⟩),.pointer (some ⟨w.heap.size+1,5,none⟩),.pointer (some ⟨w.heap.size+1,6,none⟩)] 183) w2.heap.size rfl).pull (A:=[_])
 clear S2
 refine wp_loop_rounds 5 ?_
 (rw [rounds_succ];(obtain ⟨hlp,hcp,-⟩:=S3.out.a0b 1 rfl);(go_wp2_with fail);(have hcall:=St.c0u S3.out (by have:=HI.out.la;omega));(rw [HI.out.ta] at hcall);(refine hcall.mono ?_);clear hcall;rintro e w3 ⟨yo,yc,rfl,ho,hS⟩;(have T:=uH hS);(obtain ⟨hl1,hc1,hf1⟩:=T.out.a0b 3 rfl);(have hcv:=b0c ho.at yc);clear ho hS hcp hlp;(go_wp2_with fail);(have S4:=uH (((T.out.pull (A:=[_,_,_])).setObj 3 (aS ⟨d.key.toArray⟩)).pull (A:=[_])));clear T hcv hl1 hc1 hf1)
 (rw [rounds_succ];(obtain ⟨hlp,hcp,-⟩:=S4.out.a0b 2 rfl);(go_wp2_with fail);(have hcall:=St.c0u S4.out (by have:=HI.out.lb;omega));(rw [HI.out.tb] at hcall);(refine hcall.mono ?_);clear hcall;rintro e w4 ⟨yo,yc,rfl,ho,hS⟩;(have T:=uH hS);(obtain ⟨hl1,hc1,hf1⟩:=T.out.a0b 1 rfl);(have hcv:=b0c ho.at yc);clear ho hS hcp hlp;(go_wp2_with fail);(have S5:=uH (((T.out.pull (A:=[_])).setObj 4 (aS ⟨d.who.toArray⟩)).pull (A:=[_])));clear T hcv hl1 hc1 hf1)
 (rw [rounds_succ];(obtain ⟨hlp,hcp,-⟩:=S5.out.a0b 2 rfl);(go_wp2_with fail);(have hcall:=St.c0u S5.out (by have:=HI.out.lc;omega));(rw [HI.out.tc] at hcall);(refine hcall.mono ?_);clear hcall;rintro e w5 ⟨yo,yc,rfl,ho,hS⟩;(have T:=uH hS);(obtain ⟨hl1,hc1,hf1⟩:=T.out.a0b 1 rfl);(have hcv:=b0c ho.at yc);clear ho hS hcp hlp;(go_wp2_with fail);(have S6:=uH (((T.out.pull (A:=[_])).setObj 5 (aS ⟨d.tkey.toArray⟩)).pull (A:=[_])));clear T hcv hl1 hc1 hf1)
 (rw [rounds_succ];(obtain ⟨hlp,hcp,-⟩:=S6.out.a0b 2 rfl);(go_wp2_with fail);(have hcall:=St.c0u S6.out (by have:=HI.out.ld;omega));(rw [HI.out.td] at hcall);(refine hcall.mono ?_);clear hcall;rintro e w6 ⟨yo,yc,rfl,ho,hS⟩;(have T:=uH hS);(obtain ⟨hl1,hc1,hf1⟩:=T.out.a0b 1 rfl);(have hcv:=b0c ho.at yc);clear ho hS hcp hlp;(go_wp2_with fail);(have S7:=uH (((T.out.pull (A:=[_])).setObj 6 (aS ⟨d.twho.toArray⟩)).pull (A:=[_])));clear T hcv hl1 hc1 hf1)
 rw [rounds_succ]
 go_wp2_with fail
 obtain ⟨w7,hw7⟩:∃ w7,w7=w6.setCell ⟨w.heap.size+1,6,none⟩ (aS ⟨d.twho.toArray⟩):=⟨_,rfl⟩
 rw [←hw7] at S7 ⊢
 have Hz7:Hid (w6.heap.size=w7.heap.size):=by rw [hw7];simp [Hid,World.setCell]
 clear hw7
 have S8:Hid (St w w7 (thRd p g r7 b7::(List.map thOb [(w.heap.size+1,#[aI aK (d.k:Nat),aI aK (d.c:Nat),aI aK (d.s:Nat),aS ⟨d.key.toArray⟩,aS ⟨d.who.toArray⟩,aS ⟨d.tkey.toArray⟩,aS ⟨d.twho.toArray⟩,aI aK 0,aI aK 0,aI aK 0,aB false,aI aK 0],30),(w2.heap.size,#[.pointer (some ⟨w.heap.size+1,3,none⟩),.pointer (some ⟨w.heap.size+1,4,none⟩),.pointer (some ⟨w.heap.size+1,5,none⟩),.pointer (some ⟨w.heap.size+1,6,none⟩)],183),(w.heap.size+1+1,#[aI aK 0],3),(w.heap.size,#[aI aK 0,aI aK 0,aI aK 0,aS ⟨#[]⟩,aS ⟨#[]⟩,aS ⟨#[]⟩,aS ⟨#[]⟩,aI aK 0,aI aK 0,aI aK 0,aB false,aI aK 0],30)]++[]))):=S7
 clear S7
 refine (St.f0b S8.out (by have:=HI.out.le;omega) [(0,7),(0,8),(0,9),(2,0),(0,11)] ?_ w6.heap.size 5 Hz7.out rfl (by simp) _ _ rfl).mono ?_
 ·intro q hq
  simp only [List.mem_cons,List.not_mem_nil,or_false] at hq
  rcases hq with rfl | rfl | rfl | rfl | rfl<;>exact ⟨_,_,rfl,rfl⟩
 rintro e w8 ⟨rfl,hS⟩
 have S9:Hid (St w w8 [thRd p g d.rest d.bad,a0c (w.heap.size+1) (.cells #[aI aK (d.k:Nat),aI aK (d.c:Nat),aI aK (d.s:Nat),aS ⟨d.key.toArray⟩,aS ⟨d.who.toArray⟩,aS ⟨d.tkey.toArray⟩,aS ⟨d.twho.toArray⟩,aI aK (d.i:Nat),aI aK (d.n:Nat),aI aK (d.p:Nat),aB false,aI aK (d.d:Nat)] 30 (0,0)),a0c w2.heap.size (.cells #[.pointer (some ⟨w.heap.size+1,3,none⟩),.pointer (some ⟨w.heap.size+1,4,none⟩),.pointer (some ⟨w.heap.size+1,5,none⟩),.pointer (some ⟨w.heap.size+1,6,none⟩)] 183 (0,0)),a0c (w.heap.size+1+1) (.cells #[aI aK (d.b:Nat)] 3 (0,0)),a0c w.heap.size (.cells #[aI aK 0,aI aK 0,aI aK 0,aS ⟨#[]⟩,aS ⟨#[]⟩,aS ⟨#[]⟩,aS ⟨#[]⟩,aI aK 0,aI aK 0,aI aK 0,aB false,aI aK 0] 30 (0,0))]):=by
  rw [HI.out.qr,HI.out.qx,HI.out.qi,HI.out.qn,HI.out.qp,HI.out.qd,HI.out.qb]
  exact hS
 clear hS S8
 obtain ⟨hl1,hc1,hf1⟩:=S9.out.a0b 1 rfl
 obtain ⟨hl2,hc2,hf2⟩:=S9.out.a0b 3 rfl
 obtain ⟨bb,hbb⟩:∃ bb:Bool,bb=(d.b==1):=⟨_,rfl⟩
 have hbi:((d.b:Int)==1)=bb:=by rw [hbb];exact Bool.eq_iff_iff.2 (by simp only [beq_iff_eq];omega)
 have Hbb:=uH hbb
 clear hbb
 go_wp2_with fail
 have S10:Hid (St w _ [thRd p g d.rest d.bad,a0c (w.heap.size+1) (.cells #[aI aK (d.k:Nat),aI aK (d.c:Nat),aI aK (d.s:Nat),aS ⟨d.key.toArray⟩,aS ⟨d.who.toArray⟩,aS ⟨d.tkey.toArray⟩,aS ⟨d.twho.toArray⟩,aI aK (d.i:Nat),aI aK (d.n:Nat),aI aK (d.p:Nat),aB bb,aI aK (d.d:Nat)] 30 (0,0)),a0c w2.heap.size (.cells #[.pointer (some ⟨w.heap.size+1,3,none⟩),.pointer (some ⟨w.heap.size+1,4,none⟩),.pointer (some ⟨w.heap.size+1,5,none⟩),.pointer (some ⟨w.heap.size+1,6,none⟩)] 183 (0,0)),a0c (w.heap.size+1+1) (.cells #[aI aK (d.b:Nat)] 3 (0,0)),a0c w.heap.size (.cells #[aI aK 0,aI aK 0,aI aK 0,aS ⟨#[]⟩,aS ⟨#[]⟩,aS ⟨#[]⟩,aS ⟨#[]⟩,aI aK 0,aI aK 0,aI aK 0,aB false,aI aK 0] 30 (0,0))]):=((S9.out.pull (A:=[_])).setObj 10 (aB bb)).pull (A:=[_])
 clear S9 hl1 hc1 hf1 hl2 hc2 hf2 hbi
 have HG:Hid (goodD l=(g0e d&&mayO (dqQ d)&&(l==encO (dqQ d)))):=by rw [Hd.out];exact (u0k l).symm
 have HQ:Hid (dqQ d=⟨d.k,d.c,d.s,⟨d.key.toArray⟩,⟨d.who.toArray⟩,⟨d.tkey.toArray⟩,⟨d.twho.toArray⟩,d.i,d.n,d.p,bb,d.d⟩):=by rw [Hbb.out];rfl
 have HL:Hid (d.rest.length≤140737488351232):=by
  have h1:=b0f r7 b7 5
  have h2:=HI.out.le
  rw [←HI.out.qr] at h1
  show _≤_
  omega
 cases hmy:mayO (dqQ d) with
 | false =>
  have hG:goodD l=false:=by rw [HG.out,hmy];simp
  have HGf:=uH hG
  rw [HQ.out] at hmy
  have He:=fun w=>p0m _ w hmy
  simp only at He
  have He:=uH He
  clear hmy hG HG
  refine (He.out _).mono ?_
  rintro e w10 ⟨rfl,hb⟩
  have S11:=uH (S10.out.grow hb)
  clear S10 hb
  obtain ⟨hl0,hc0,hf0⟩:=S11.out.a0b 4 rfl;(have hb10:=S11.out.b);(have Hwh:=uH (f0m p g d.rest d.bad w10 S11.out.head HL.out))
  cases hz:(!d.bad&&d.rest.isEmpty) with
  | true =>
   rw [hz] at Hwh
   clear hz
   (go_wp2_with fail);(refine Hwh.out.mono ?_);(rintro e w11 ⟨rfl,rfl⟩);(go_wp2_with fail);exact bodyPost_ret (v:=.tuple #[.agg #[aI aK 0,aI aK 0,aI aK 0,aS ⟨#[]⟩,aS ⟨#[]⟩,aS ⟨#[]⟩,aS ⟨#[]⟩,aI aK 0,aI aK 0,aI aK 0,aB false,aI aK 0],aI aK 3]) (by simp only [results,Tryz.results86];go_simp) rfl ⟨bg,by rw [if_neg (by rw [HGf.out];simp)]⟩
  | false =>
   rw [hz] at Hwh
   clear hz
   (go_wp2_with fail);(refine Hwh.out.mono ?_);(rintro e w11 ⟨rfl,rfl⟩);(go_wp2_with fail);exact bodyPost_ret (v:=.tuple #[.agg #[aI aK 0,aI aK 0,aI aK 0,aS ⟨#[]⟩,aS ⟨#[]⟩,aS ⟨#[]⟩,aS ⟨#[]⟩,aI aK 0,aI aK 0,aI aK 0,aB false,aI aK 0],aI aK 3]) (by simp only [results,Tryz.results86];go_simp) rfl ⟨bg,by rw [if_neg (by rw [HGf.out];simp)]⟩
 | true =>
  have hEq:=HG.out
  rw [hmy,Bool.and_true] at hEq
  have hmq:=hmy
  rw [HQ.out] at hmy
  have He:=fun w=>y0f _ w hmy
  simp only at He
  obtain ⟨X,hX⟩:∃ X,X=encO (dqQ d):=⟨_,rfl⟩
  rw [←hX] at hEq
  rw [HQ.out] at hX
  rw [←hX] at He
  have He:=uH He
  have HEq:=uH hEq
  clear hmy hEq hX HG
  refine (He.out _).mono ?_
  rintro e w10 ⟨xo,xc,rfl,ho,hb⟩
  have S11:=uH (S10.out.grow hb)
  have Ho:=uH ho
  clear S10 hb ho
  obtain ⟨hl0,hc0,hf0⟩:=S11.out.a0b 4 rfl;(have hb10:=S11.out.b);(have Hwh:=uH (f0m p g d.rest d.bad w10 S11.out.head HL.out))
  cases hz:(!d.bad&&d.rest.isEmpty) with
  | false =>
   have HGf:Hid (goodD l=false):=by rw [HEq.out];unfold g0e;rw [hz];simp [Hid]
   rw [hz] at Hwh
   clear hz
   (go_wp2_with fail);(refine Hwh.out.mono ?_);(rintro e w11 ⟨rfl,rfl⟩);(go_wp2_with fail);exact bodyPost_ret (v:=.tuple #[.agg #[aI aK 0,aI aK 0,aI aK 0,aS ⟨#[]⟩,aS ⟨#[]⟩,aS ⟨#[]⟩,aS ⟨#[]⟩,aI aK 0,aI aK 0,aI aK 0,aB false,aI aK 0],aI aK 3]) (by simp only [results,Tryz.results86];go_simp) rfl ⟨bg,by rw [if_neg (by rw [HGf.out];simp)]⟩
  | true =>
   have HGz:Hid (goodD l=(l==X)):=by rw [HEq.out];unfold g0e;rw [hz];simp [Hid]
   rw [hz] at Hwh
   clear hz
   have Heql:=uH (f0q ao xo cap xc l X w10 (Ha.out.below S11.out.b) Ho.out.at)
   cases hq:(l==X) with
   | false =>
    have HGf:Hid (goodD l=false):=by rw [HGz.out,hq];rfl
    rw [hq] at Heql
    clear hq
    go_wp2_with fail
    refine Hwh.out.mono ?_
    rintro e w11 ⟨rfl,rfl⟩
    go_wp2_with fail
    refine Heql.out.mono ?_
    rintro e w12 ⟨rfl,rfl⟩
    go_wp2_with fail
    exact bodyPost_ret (v:=.tuple #[.agg #[aI aK 0,aI aK 0,aI aK 0,aS ⟨#[]⟩,aS ⟨#[]⟩,aS ⟨#[]⟩,aS ⟨#[]⟩,aI aK 0,aI aK 0,aI aK 0,aB false,aI aK 0],aI aK 3]) (by simp only [results,Tryz.results86];go_simp) rfl ⟨bg,by rw [if_neg (by rw [HGf.out];simp)]⟩
   | true =>
    have HGt:Hid (goodD l=true):=by rw [HGz.out,hq];rfl
    rw [hq] at Heql
    clear hq
    obtain ⟨hl1,hc1,hf1⟩:=S11.out.a0b 1 rfl
    go_wp2_with fail
    refine Hwh.out.mono ?_
    rintro e w11 ⟨rfl,rfl⟩
    go_wp2_with fail
    refine Heql.out.mono ?_
    rintro e w12 ⟨rfl,rfl⟩
    go_wp2_with fail
    refine bodyPost_ret (v:=.tuple #[.agg #[aI aK (d.k:Nat),aI aK (d.c:Nat),aI aK (d.s:Nat),aS ⟨d.key.toArray⟩,aS ⟨d.who.toArray⟩,aS ⟨d.tkey.toArray⟩,aS ⟨d.twho.toArray⟩,aI aK (d.i:Nat),aI aK (d.n:Nat),aI aK (d.p:Nat),aB bb,aI aK (d.d:Nat)],aI aK 0]) (by simp only [results,Tryz.results86];go_simp) rfl ⟨bg,?_⟩
    rw [if_pos HGt.out,←Hd.out,HQ.out]
open Go.RowKit
def t0h (w:World) (l:List UInt8) (e:Ending) (w':World):Prop:=e=.returned (.tuple #[.agg #[aI aK (repR l).err,aI aK (repR l).id,aI aK (repR l).i.a,aI aK (repR l).i.b,aI aK (repR l).i.c,aI aK (repR l).i.d],aI aK (repE l)])∧Below w.heap.size w w'
structure RIs (l:List UInt8) (n0 n1 n2 n3 n4 n5:Nat) (rr:List UInt8) (rb:Bool):Prop where
 v0:a0j l false 0=n0
 v1:a0j l false 1=n1
 v2:a0j l false 2=n2
 v3:a0j l false 3=n3
 v4:a0j l false 4=n4
 v5:a0j l false 5=n5
 sr:(rdSt l false 6).1=rr
 sb:(rdSt l false 6).2=rb
 good:e0m l=((!rb&&rr.isEmpty)&&mayR ⟨n0,n1,⟨n2,n3,n4,n5⟩⟩)
 rp:rpOf l=⟨n0,n1,⟨n2,n3,n4,n5⟩⟩
 len:rr.length≤l.length
theorem o0l (l:List UInt8):∃ n0 n1 n2 n3 n4 n5 rr rb,RIs l n0 n1 n2 n3 n4 n5 rr rb:=⟨_,_,_,_,_,_,_,_,⟨rfl,rfl,rfl,rfl,rfl,rfl,rfl,rfl,rfl,rfl,b0f _ _ _⟩⟩
theorem e0g {l:List UInt8} (h:e0m l=false):repR l=zRp∧repE l=3:=by unfold repR repE;rw [h];exact ⟨rfl,rfl⟩
theorem g0v {l:List UInt8} (h:e0m l=true):repR l=rpOf l∧repE l=0:=by unfold repR repE;rw [h];exact ⟨rfl,rfl⟩
set_option maxRecDepth 40000 in
set_option maxHeartbeats 4000000 in
theorem u0p (ao:Option Addr) (cap:Nat) (l:List UInt8) (w:World) (h0:ao=none→l.length=0∧cap=0) (ha:BAt w ao l) (hm:l.length≤2000) :
 Calls Tryz.prog 87 #[.slice ao l.length cap] w (t0h w l):=by
 have Ha:=uH ha
 have H0:=uH h0
 obtain ⟨n0,n1,n2,n3,n4,n5,rr,rb,HI⟩:=o0l l
 have HI:=uH HI
 clear ha h0
 go_enter Tryz.func87,Tryz.ntmps87
 go_wp2_with fail
 have S0:Hid (St w _ [a0c (w.heap.size+1+1) (.cells #[aI aK 0] 3 (0,0)),a0c (w.heap.size+1) (.cells #[aI aK 0,aI aK 0,aI aK 0,aI aK 0,aI aK 0,aI aK 0] 41 (0,0)),a0c w.heap.size (.cells #[aI aK 0,aI aK 0,aI aK 0,aI aK 0,aI aK 0,aI aK 0] 41 (0,0))]):=(((St.start w).objN (.cells #[aI aK 0,aI aK 0,aI aK 0,aI aK 0,aI aK 0,aI aK 0] 41) w.heap.size rfl).objN (.cells #[aI aK 0,aI aK 0,aI aK 0,aI aK 0,aI aK 0,aI aK 0] 41) (w.heap.size+1) (by simp)).objN (.cells #[aI aK 0] 3) (w.heap.size+1+1) (by simp)
 refine (d0u ao cap l _ H0.out (Ha.out.below S0.out.b) (by omega)).mono ?_
 rintro e w1 ⟨p,g,rfl,hr,hb,hp,hg⟩
 have S1:=uH (S0.out.x0d hr hb hp hg)
 clear S0 hr hb hp hg
 go_wp2_with fail
 refine (St.f0b (O:=[(w.heap.size+1+1,#[aI aK 0],3),(w.heap.size+1,#[aI aK 0,aI aK 0,aI aK 0,aI aK 0,aI aK 0,aI aK 0],41),(w.heap.size,#[aI aK 0,aI aK 0,aI aK 0,aI aK 0,aI aK 0,aI aK 0],41)]) (L:=[]) S1.out (by omega) [(0,0),(1,1),(1,2),(1,3),(1,4),(1,5)] ?_ w1.heap.size 6 rfl rfl (by simp) _ _ rfl).mono ?_
 ·intro q hq
  simp only [List.mem_cons,List.not_mem_nil,or_false] at hq
  rcases hq with rfl | rfl | rfl | rfl | rfl | rfl<;>exact ⟨_,_,rfl,rfl⟩
 rintro e w2 ⟨rfl,hS⟩
 have S2:Hid (St w w2 [thRd p g rr rb,a0c (w.heap.size+1+1) (.cells #[aI aK (n0:Nat)] 3 (0,0)),a0c (w.heap.size+1) (.cells #[aI aK 0,aI aK (n1:Nat),aI aK (n2:Nat),aI aK (n3:Nat),aI aK (n4:Nat),aI aK (n5:Nat)] 41 (0,0)),a0c w.heap.size (.cells #[aI aK 0,aI aK 0,aI aK 0,aI aK 0,aI aK 0,aI aK 0] 41 (0,0))]):=by
  rw [←HI.out.v0,←HI.out.v1,←HI.out.v2,←HI.out.v3,←HI.out.v4,←HI.out.v5,←HI.out.sr,←HI.out.sb]
  exact hS
 clear hS S1
 obtain ⟨hl1,hc1,hf1⟩:=S2.out.a0b 1 rfl
 obtain ⟨hl2,hc2,hf2⟩:=S2.out.a0b 2 rfl
 go_wp2_with fail
 obtain ⟨w3,hw3⟩:∃ w3,w3=w2.setCell ⟨w.heap.size+1,0,none⟩ (aI aK (n0:Nat)):=⟨_,rfl⟩
 have S3:Hid (St w w3 [thRd p g rr rb,a0c (w.heap.size+1) (.cells #[aI aK (n0:Nat),aI aK (n1:Nat),aI aK (n2:Nat),aI aK (n3:Nat),aI aK (n4:Nat),aI aK (n5:Nat)] 41 (0,0)),a0c (w.heap.size+1+1) (.cells #[aI aK (n0:Nat)] 3 (0,0)),a0c w.heap.size (.cells #[aI aK 0,aI aK 0,aI aK 0,aI aK 0,aI aK 0,aI aK 0] 41 (0,0))]):=by
  rw [hw3];exact ((S2.out.pull (A:=[_,_])).setObj 0 (aI aK (n0:Nat))).pull (A:=[_])
 rw [←hw3]
 clear S2 hl1 hc1 hf1 hl2 hc2 hf2 hw3
 have hwh:=f0m p g rr rb w3 S3.out.head (by have:=HI.out.len;omega)
 obtain ⟨hl0,hc0,hf0⟩:=S3.out.a0b 3 rfl
 obtain ⟨hl1,hc1,hf1⟩:=S3.out.a0b 1 rfl
 have hb3:=S3.out.b
 cases hz:(!rb&&rr.isEmpty) with
 | false =>
  have HGf:Hid (e0m l=false):=by rw [HI.out.good,hz];rfl
  rw [hz] at hwh
  have Hwh:=uH hwh
  clear hz hwh
  refine Hwh.out.mono ?_
  rintro e w4 ⟨rfl,rfl⟩
  (go_wp2_with fail);exact bodyPost_ret (v:=.tuple #[.agg #[aI aK 0,aI aK 0,aI aK 0,aI aK 0,aI aK 0,aI aK 0],aI aK 3]) (by simp only [results,Tryz.results87];go_simp) rfl ⟨by rw [(e0g HGf.out).1,(e0g HGf.out).2];rfl,bg⟩
 | true =>
  have HGz:Hid (e0m l=mayR ⟨n0,n1,⟨n2,n3,n4,n5⟩⟩):=by rw [HI.out.good,hz,Bool.true_and];rfl
  rw [hz] at hwh
  have Hwh:=uH hwh
  clear hz hwh
  obtain ⟨z,hz⟩:∃ z,mayR ⟨n0,n1,⟨n2,n3,n4,n5⟩⟩=z:=⟨_,rfl⟩
  have hmy:=fun w=>qop.g0j ⟨n0,n1,⟨n2,n3,n4,n5⟩⟩ w z hz
  simp only at hmy
  have Hmy:=uH hmy
  rw [hz] at HGz
  clear hmy hz
  refine Hwh.out.mono ?_
  rintro e w4 ⟨rfl,rfl⟩
  go_wp2_with fail
  refine (Hmy.out _).mono ?_
  rintro e w5 ⟨rfl,hb⟩
  have S4:=uH (S3.out.grow hb)
  clear hb hl0 hc0 hf0 hl1 hc1 hf1 hb3 S3
  obtain ⟨hl0,hc0,hf0⟩:=S4.out.a0b 3 rfl
  obtain ⟨hl1,hc1,hf1⟩:=S4.out.a0b 1 rfl
  have hb5:=S4.out.b
  cases z with
  | false =>
   have HGf:Hid (e0m l=false):=HGz
   (go_wp2_with fail);exact bodyPost_ret (v:=.tuple #[.agg #[aI aK 0,aI aK 0,aI aK 0,aI aK 0,aI aK 0,aI aK 0],aI aK 3]) (by simp only [results,Tryz.results87];go_simp) rfl ⟨by rw [(e0g HGf.out).1,(e0g HGf.out).2];rfl,bg⟩
  | true =>
   have HGt:Hid (e0m l=true):=HGz
   (go_wp2_with fail);exact bodyPost_ret (v:=.tuple #[.agg #[aI aK (n0:Nat),aI aK (n1:Nat),aI aK (n2:Nat),aI aK (n3:Nat),aI aK (n4:Nat),aI aK (n5:Nat)],aI aK 0]) (by simp only [results,Tryz.results87];go_simp) rfl ⟨by rw [(g0v HGt.out).1,(g0v HGt.out).2,HI.out.rp],bg⟩
theorem St.badO {W w:World} {L:List Th} {p g:Nat} {rest:List UInt8} {bad:Bool} (h:St W w (thRO W p g rest bad::L)) :
 Calls Tryz.prog 97 #[.pointer (some ⟨p,0,none⟩)] w fun e w'=>e=.returned (.tuple #[])∧St W w' (thRO W p g [] true::L):=by
 refine (d0r p g rest bad w (RO.rr h.head h.b)).mono ?_
 rintro e w' ⟨rfl,hr,hk⟩
 exact ⟨rfl,h.r0u hr hk (by simp)⟩
set_option maxRecDepth 40000 in
set_option maxHeartbeats 4000000 in
theorem w0k {W w:World} {L:List Th} {p g:Nat} {rest:List UInt8} {bad:Bool} (h:St W w (thRO W p g rest bad::L)) (hm:rest.length≤2000) (m0 m1 m2 m3:Nat) (r1 r2 r3 r4:List UInt8) (b1 b2 b3 b4:Bool) (e0:numT rest bad=(m0,r1,b1)) (e1:numT r1 b1=(m1,r2,b2)) (e2:numT r2 b2=(m2,r3,b3)) (e3:numT r3 b3=(m3,r4,b4)) (z:Bool) (hz:isI ⟨m0,m1,m2,m3⟩=z) :
 Calls Tryz.prog 133 #[.pointer (some ⟨p,0,none⟩)] w fun e w'=>e=.returned (.agg #[aI aK (m0:Nat),aI aK (m1:Nat),aI aK (m2:Nat),aI aK (m3:Nat)])∧St W w' (thRO W p g (if z then r4 else []) (if z then b4 else true)::L):=by
 have H:=uH h
 have Hl:Hid (r1.length≤2000∧r2.length≤2000∧r3.length≤2000):=by
  have h1:=(e0u rest bad).1;rw [e0] at h1
  have h2:=(e0u r1 b1).1;rw [e1] at h2
  have h3:=(e0u r2 b2).1;rw [e2] at h3
  simp only at h1 h2 h3
  exact ⟨by omega,by omega,by omega⟩
 have E0:=uH e0
 have E1:=uH e1
 have E2:=uH e2
 have E3:=uH e3
 have hq:=fun w=>h0o ⟨m0,m1,m2,m3⟩ w
 rw [hz] at hq
 have Hq:=uH hq
 clear h e0 e1 e2 e3 hq hz
 go_enter Tryz.func133,Tryz.ntmps133
 go_wp2_with fail
 have S0:Hid (St W _ (thRO W p g rest bad::a0c (w.heap.size+1) (.cells #[aI aK 0,aI aK 0,aI aK 0,aI aK 0] 39 (0,0))::a0c w.heap.size (.cells #[aI aK 0,aI aK 0,aI aK 0,aI aK 0] 39 (0,0))::L)):=((H.out.objN (.cells #[aI aK 0,aI aK 0,aI aK 0,aI aK 0] 39) w.heap.size rfl).objN (.cells #[aI aK 0,aI aK 0,aI aK 0,aI aK 0] 39) (w.heap.size+1) (by simp)).pull (A:=[_,_])
 clear H
 refine wp_loop_rounds 5 ?_
 rw [rounds_succ]
 go_wp2_with fail
 (have hcall:=St.b0g S0.out (by have h3:=Hl.out.1;have h4:=Hl.out.2.1;have h5:=Hl.out.2.2;omega);(rw [E0.out] at hcall);(refine hcall.mono ?_);clear hcall S0;(rintro e w1 ⟨rfl,hS⟩);(have T:=uH hS);(obtain ⟨hl1,hc1,hf1⟩:=T.out.a0b 1 rfl);clear hS;(go_wp2_with fail);(have S1:=uH (((T.out.pull (A:=[_])).setObj 0 (aI aK (m0:Nat))).pull (A:=[_])));clear T hl1 hc1 hf1)
 rw [rounds_succ]
 go_wp2_with fail
 (have hcall:=St.b0g S1.out (by have h3:=Hl.out.1;have h4:=Hl.out.2.1;have h5:=Hl.out.2.2;omega);(rw [E1.out] at hcall);(refine hcall.mono ?_);clear hcall S1;(rintro e w2 ⟨rfl,hS⟩);(have T:=uH hS);(obtain ⟨hl1,hc1,hf1⟩:=T.out.a0b 1 rfl);clear hS;(go_wp2_with fail);(have S2:=uH (((T.out.pull (A:=[_])).setObj 1 (aI aK (m1:Nat))).pull (A:=[_])));clear T hl1 hc1 hf1)
 rw [rounds_succ]
 go_wp2_with fail
 (have hcall:=St.b0g S2.out (by have h3:=Hl.out.1;have h4:=Hl.out.2.1;have h5:=Hl.out.2.2;omega);(rw [E2.out] at hcall);(refine hcall.mono ?_);clear hcall S2;(rintro e w3 ⟨rfl,hS⟩);(have T:=uH hS);(obtain ⟨hl1,hc1,hf1⟩:=T.out.a0b 1 rfl);clear hS;(go_wp2_with fail);(have S3:=uH (((T.out.pull (A:=[_])).setObj 2 (aI aK (m2:Nat))).pull (A:=[_])));clear T hl1 hc1 hf1)
 rw [rounds_succ]
 go_wp2_with fail
 (have hcall:=St.b0g S3.out (by have h3:=Hl.out.1;have h4:=Hl.out.2.1;have h5:=Hl.out.2.2;omega);(rw [E3.out] at hcall);(refine hcall.mono ?_);clear hcall S3;(rintro e w4 ⟨rfl,hS⟩);(have T:=uH hS);(obtain ⟨hl1,hc1,hf1⟩:=T.out.a0b 1 rfl);clear hS;(go_wp2_with fail);(have S4:=uH (((T.out.pull (A:=[_])).setObj 3 (aI aK (m3:Nat))).pull (A:=[_])));clear T hl1 hc1 hf1)
 rw [rounds_succ]
 obtain ⟨w5,hw5⟩:∃ w5,w5=w4.setCell ⟨w.heap.size+1,3,none⟩ (aI aK (m3:Nat)):=⟨_,rfl⟩
 have S5:Hid (St W w5 (thRO W p g r4 b4::a0c (w.heap.size+1) (.cells #[aI aK (m0:Nat),aI aK (m1:Nat),aI aK (m2:Nat),aI aK (m3:Nat)] 39 (0,0))::a0c w.heap.size (.cells #[aI aK 0,aI aK 0,aI aK 0,aI aK 0] 39 (0,0))::L)):=by
  rw [hw5];exact S4.out
 rw [←hw5]
 clear S4 hw5
 obtain ⟨hl1,hc1,hf1⟩:=S5.out.a0b 1 rfl
 go_wp2_with fail
 refine (Hq.out _).mono ?_
 rintro e w6 ⟨rfl,hb⟩
 have S6:=uH (S5.out.grow hb)
 clear hb S5 hl1 hc1 hf1
 cases z with
 | true =>
  obtain ⟨hl1,hc1,hf1⟩:=S6.out.a0b 1 rfl
  obtain ⟨hl2,hc2,hf2⟩:=S6.out.a0b 2 rfl
  go_wp2_with fail
  have S7:=uH ((((((S6.out.pull (A:=[_,_])).setObj 0 (aI aK (m0:Nat))).setObj 1 (aI aK (m1:Nat))).setObj 2 (aI aK (m2:Nat))).setObj 3 (aI aK (m3:Nat))).drop)
  exact bodyPost_ret (v:=.agg #[aI aK (m0:Nat),aI aK (m1:Nat),aI aK (m2:Nat),aI aK (m3:Nat)]) (by simp only [results,Tryz.results133];go_simp) rfl ⟨rfl,(S7.out.perm (List.Perm.swap _ _ _)).drop⟩
 | false =>
  go_wp2_with fail
  refine (St.badO S6.out).mono ?_
  rintro e w7 ⟨rfl,hS⟩
  have S7:=uH hS
  clear S6 hS
  obtain ⟨hl1,hc1,hf1⟩:=S7.out.a0b 1 rfl
  obtain ⟨hl2,hc2,hf2⟩:=S7.out.a0b 2 rfl
  go_wp2_with fail
  have S8:=uH ((((((S7.out.pull (A:=[_,_])).setObj 0 (aI aK (m0:Nat))).setObj 1 (aI aK (m1:Nat))).setObj 2 (aI aK (m2:Nat))).setObj 3 (aI aK (m3:Nat))).drop)
  exact bodyPost_ret (v:=.agg #[aI aK (m0:Nat),aI aK (m1:Nat),aI aK (m2:Nat),aI aK (m3:Nat)]) (by simp only [results,Tryz.results133];go_simp) rfl ⟨rfl,(S8.out.perm (List.Perm.swap _ _ _)).drop⟩
structure RIn (l:List UInt8) (n0 n1 n2 n3 n4 n5:Nat) (rr:List UInt8) (rb:Bool) (r1:List UInt8) (b1:Bool) (r2:List UInt8) (b2:Bool) (r3:List UInt8) (b3:Bool) (r4:List UInt8) (b4:Bool) (r5:List UInt8) (b5:Bool):Prop where
 na:numT l false=(n0,r1,b1)
 nb:numT r1 b1=(n1,r2,b2)
 nc:numT r2 b2=(n2,r3,b3)
 nd:numT r3 b3=(n3,r4,b4)
 ne:numT r4 b4=(n4,r5,b5)
 nf:numT r5 b5=(n5,rr,rb)
 la:r1.length≤l.length
 lb:r2.length≤l.length
theorem rep_nums {l:List UInt8} {n0 n1 n2 n3 n4 n5:Nat} {rr:List UInt8} {rb:Bool} (h:RIs l n0 n1 n2 n3 n4 n5 rr rb):∃ r1 b1 r2 b2 r3 b3 r4 b4 r5 b5,RIn l n0 n1 n2 n3 n4 n5 rr rb r1 b1 r2 b2 r3 b3 r4 b4 r5 b5:=by
 refine ⟨(rdSt l false 1).1,(rdSt l false 1).2,(rdSt l false 2).1,(rdSt l false 2).2,(rdSt l false 3).1,(rdSt l false 3).2,(rdSt l false 4).1,(rdSt l false 4).2,(rdSt l false 5).1,(rdSt l false 5).2,⟨?_,?_,?_,?_,?_,?_,b0f _ _ _,b0f _ _ _⟩⟩
 ·rw [←h.v0];exact b0j l false 0 1 rfl
 ·rw [←h.v1];exact b0j l false 1 2 rfl
 ·rw [←h.v2];exact b0j l false 2 3 rfl
 ·rw [←h.v3];exact b0j l false 3 4 rfl
 ·rw [←h.v4];exact b0j l false 4 5 rfl
 ·rw [←h.v5,←h.sr,←h.sb];exact b0j l false 5 6 rfl
set_option maxRecDepth 40000 in
set_option maxHeartbeats 4000000 in
theorem q0g (ao:Option Addr) (cap:Nat) (l:List UInt8) (w:World) (hlc:l.length≤cap) (hcm:cap≤9223372036854775807) (h0:ao=none→l.length=0∧cap=0) (ha:BAt w ao l) (hm:l.length≤2000) :
 Calls Tryz.prog 101 #[.slice ao l.length cap] w (t0h w l):=by
 obtain ⟨n0,n1,n2,n3,n4,n5,rr,rb,HI⟩:=o0l l
 obtain ⟨r1,b1,r2,b2,r3,b3,r4,b4,r5,b5,HN⟩:=rep_nums HI
 have HI:=uH HI
 have HN:=uH HN
 have Hnew:=uH (((St.start w).objN (.cells #[aI aK 0,aI aK 0,aI aK 0,aI aK 0,aI aK 0,aI aK 0] 41) w.heap.size rfl).newRO (w.heap.size+1) (by simp) ao cap l hlc hcm h0 ha)
 clear hlc hcm h0 ha
 go_enter Tryz.func101,Tryz.ntmps101
 go_wp2_with fail
 obtain ⟨g,hS⟩:=Hnew.out
 have S0:=uH hS
 clear hS Hnew
 have hcall:=St.b0g S0.out (by omega)
 rw [HN.out.na] at hcall
 refine hcall.mono ?_
 clear hcall S0
 rintro e w1 ⟨rfl,hS⟩
 have S1:=uH hS
 clear hS
 go_wp2_with fail
 have hcall:=St.b0g S1.out (by have:=HN.out.la;omega)
 rw [HN.out.nb] at hcall
 refine hcall.mono ?_
 clear hcall S1
 rintro e w2 ⟨rfl,hS⟩
 have S2:=uH hS
 clear hS
 go_wp2_with fail
 have S3:Hid (St w _ [thRO w (w.heap.size+1) g r2 b2,a0c w2.heap.size (.cells #[aI aK (n0:Nat),aI aK (n1:Nat),aI aK 0,aI aK 0,aI aK 0,aI aK 0] 41 (0,0)),a0c w.heap.size (.cells #[aI aK 0,aI aK 0,aI aK 0,aI aK 0,aI aK 0,aI aK 0] 41 (0,0))]):=(S2.out.objN (.cells #[aI aK (n0:Nat),aI aK (n1:Nat),aI aK 0,aI aK 0,aI aK 0,aI aK 0] 41) w2.heap.size rfl).pull (A:=[_])
 clear S2
 obtain ⟨z,hz⟩:∃ z,isI ⟨n2,n3,n4,n5⟩=z:=⟨_,rfl⟩
 have Hz:=uH hz
 refine (w0k S3.out (by have:=HN.out.lb;omega) n2 n3 n4 n5 r3 r4 r5 rr b3 b4 b5 rb HN.out.nc HN.out.nd HN.out.ne HN.out.nf z hz).mono ?_
 clear hz
 rintro e w3 ⟨rfl,hS⟩
 have S4:=uH hS
 obtain ⟨hl1,hc1,hf1⟩:=S4.out.a0b 1 rfl
 clear hS S3
 go_wp2_with fail
 obtain ⟨w4,hw4⟩:∃ w4,w4=(((w3.setCell ⟨w2.heap.size,2,none⟩ (aI aK (n2:Nat))).setCell ⟨w2.heap.size,3,none⟩ (aI aK (n3:Nat))).setCell ⟨w2.heap.size,4,none⟩ (aI aK (n4:Nat))).setCell ⟨w2.heap.size,5,none⟩ (aI aK (n5:Nat)):=⟨_,rfl⟩
 have S5:Hid (St w w4 [thRO w (w.heap.size+1) g (if z then rr else []) (if z then rb else true),a0c w2.heap.size (.cells #[aI aK (n0:Nat),aI aK (n1:Nat),aI aK (n2:Nat),aI aK (n3:Nat),aI aK (n4:Nat),aI aK (n5:Nat)] 41 (0,0)),a0c w.heap.size (.cells #[aI aK 0,aI aK 0,aI aK 0,aI aK 0,aI aK 0,aI aK 0] 41 (0,0))]):=by
  rw [hw4];exact (((((S4.out.pull (A:=[_])).setObj 2 (aI aK (n2:Nat))).setObj 3 (aI aK (n3:Nat))).setObj 4 (aI aK (n4:Nat))).setObj 5 (aI aK (n5:Nat))).pull (A:=[_])
 rw [←hw4]
 clear S4 hl1 hc1 hf1 hw4
 have hwh:=St.r0p S5.out
 obtain ⟨hl0,hc0,hf0⟩:=S5.out.a0b 2 rfl
 obtain ⟨hl1,hc1,hf1⟩:=S5.out.a0b 1 rfl
 have hb4:=S5.out.b
 cases z with
 | false =>
  have HGf:Hid (e0m l=false):=by
   rw [HI.out.good]
   have:mayR ⟨n0,n1,⟨n2,n3,n4,n5⟩⟩=false:=by unfold mayR;rw [Hz.out,Bool.and_false]
   rw [this,Bool.and_false];rfl
  have Hwh:Hid (Calls Tryz.prog 102 #[.pointer (some ⟨w.heap.size+1,0,none⟩)] w4 fun e w'=>e=.returned (aB false)∧w'=w4):=hwh
  clear hwh
  refine Hwh.out.mono ?_
  rintro e w5 ⟨rfl,rfl⟩
  (go_wp2_with fail);exact bodyPost_ret (v:=.tuple #[.agg #[aI aK 0,aI aK 0,aI aK 0,aI aK 0,aI aK 0,aI aK 0],aI aK 3]) (by simp only [results,Tryz.results101];go_simp) rfl ⟨by rw [(e0g HGf.out).1,(e0g HGf.out).2];rfl,bg⟩
 | true =>
  simp only [if_true] at hwh
  cases hy:(!rb&&rr.isEmpty) with
  | false =>
   have HGf:Hid (e0m l=false):=by rw [HI.out.good,hy];rfl
   rw [hy] at hwh
   have Hwh:=uH hwh
   clear hy hwh
   refine Hwh.out.mono ?_
   rintro e w5 ⟨rfl,rfl⟩
   (go_wp2_with fail);exact bodyPost_ret (v:=.tuple #[.agg #[aI aK 0,aI aK 0,aI aK 0,aI aK 0,aI aK 0,aI aK 0],aI aK 3]) (by simp only [results,Tryz.results101];go_simp) rfl ⟨by rw [(e0g HGf.out).1,(e0g HGf.out).2];rfl,bg⟩
  | true =>
   have HGz:Hid (e0m l=mayR ⟨n0,n1,⟨n2,n3,n4,n5⟩⟩):=by rw [HI.out.good,hy,Bool.true_and];rfl
   rw [hy] at hwh
   have Hwh:=uH hwh
   clear hy hwh
   by_cases h19:n0≤19
   ·have hd:decide ((19:Int)<n0)=false:=by rw [decide_eq_false_iff_not];omega
    obtain ⟨y,hy⟩:∃ y,mayR ⟨n0,n1,⟨n2,n3,n4,n5⟩⟩=y:=⟨_,rfl⟩
    have hmy:=fun w=>qsatrapyref10.g0t ⟨n0,n1,⟨n2,n3,n4,n5⟩⟩ w y hy
    simp only at hmy
    have Hmy:=uH hmy
    rw [hy] at HGz
    clear hmy hy h19
    refine Hwh.out.mono ?_
    rintro e w5 ⟨rfl,rfl⟩
    go_wp2_with fail
    refine (Hmy.out _).mono ?_
    rintro e w6 ⟨rfl,hb⟩
    have S6:=uH (S5.out.grow hb)
    clear hb hl0 hc0 hf0 hl1 hc1 hf1 hb4 S5
    obtain ⟨hl0,hc0,hf0⟩:=S6.out.a0b 2 rfl
    obtain ⟨hl1,hc1,hf1⟩:=S6.out.a0b 1 rfl
    have hb6:=S6.out.b
    cases y with
    | false =>
     have HGf:Hid (e0m l=false):=HGz
     (go_wp2_with fail);exact bodyPost_ret (v:=.tuple #[.agg #[aI aK 0,aI aK 0,aI aK 0,aI aK 0,aI aK 0,aI aK 0],aI aK 3]) (by simp only [results,Tryz.results101];go_simp) rfl ⟨by rw [(e0g HGf.out).1,(e0g HGf.out).2];rfl,bg⟩
    | true =>
     have HGt:Hid (e0m l=true):=HGz
     (go_wp2_with fail);exact bodyPost_ret (v:=.tuple #[.agg #[aI aK (n0:Nat),aI aK (n1:Nat),aI aK (n2:Nat),aI aK (n3:Nat),aI aK (n4:Nat),aI aK (n5:Nat)],aI aK 0]) (by simp only [results,Tryz.results101];go_simp) rfl ⟨by rw [(g0v HGt.out).1,(g0v HGt.out).2,HI.out.rp],bg⟩
   ·have hd:decide ((19:Int)<n0)=true:=by rw [decide_eq_true_eq];omega
    have HGf:Hid (e0m l=false):=by
     rw [HGz.out]
     have:mayR ⟨n0,n1,⟨n2,n3,n4,n5⟩⟩=false:=by
      cases hq:mayR ⟨n0,n1,⟨n2,n3,n4,n5⟩⟩ with
      | false=>rfl
      | true=>rw [mayR_iff] at hq;simp only at hq;omega
     rw [this];rfl
    clear h19
    refine Hwh.out.mono ?_
    rintro e w5 ⟨rfl,rfl⟩
    (go_wp2_with fail);exact bodyPost_ret (v:=.tuple #[.agg #[aI aK 0,aI aK 0,aI aK 0,aI aK 0,aI aK 0,aI aK 0],aI aK 3]) (by simp only [results,Tryz.results101];go_simp) rfl ⟨by rw [(e0g HGf.out).1,(e0g HGf.out).2];rfl,bg⟩
end Go.Proofs.YtogamdaomdoapaaGreat