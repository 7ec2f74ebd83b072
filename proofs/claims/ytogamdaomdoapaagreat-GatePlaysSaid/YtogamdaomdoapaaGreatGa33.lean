/- Texts put together: WRr, WNu. -/
import Derived.Test.YtogamdaomdoapaaGreatGa06
import Derived.Test.YtogamdaomdoapaaGreatGa16
import Derived.Test.YtogamdaomdoapaaGreatGa26
import Derived.Test.YtogamdaomdoapaaGreatGa27
import Derived.Test.YtogamdaomdoapaaGreatGa28
import Derived.Test.YtogamdaomdoapaaGreatGa29
import Derived.Test.YtogamdaomdoapaaGreatGa32
namespace Go.Proofs.YtogamdaomdoapaaGreat
open Go.Value renaming int→aI,string→aS,bool→aB
open Go.IntKind renaming i64→aK
open List renaming setIfInBounds_toArray→lA,set_cons_zero→lZ,set_cons_succ→lS
open Go.Lib renaming hid→uH
set_option maxRecDepth 20000
open Go.RowKit
def z0g (W:World) (L:List Th) (p g Q:Nat) (pp r:List UInt8) (k:Int) (e:Ending) (w':World):Prop :=
 ∃ VQ e' b',St W w' (thRR p g e' b'::a0c Q (.cells VQ 49 (0,0))::L)∧e=.returned (aB (b0p k r&&i0c pp))∧(b0p k r=true→∃ mo zc dl dc,VQ=wdV (wdOf pp) (.slice mo (wdOf pp).mp.zs.length zc) (.slice dl (wdOf pp).data.length dc)∧O.ZsAt w' mo (wdOf pp).mp.zs∧F.Sl w' dl dc (wdOf pp).data)
theorem t0o (e:List UInt8) (b:Bool):∃ x1 y1 x2 y2,numT e b=(a0j e b 0,x1,y1)∧numT x1 y1=(a0j e b 1,x2,y2)∧numT x2 y2=(a0j e b 2,(rdSt e b 3).1,(rdSt e b 3).2)∧x1.length≤e.length∧x2.length≤e.length :=
 ⟨_,_,_,_,b0j e b 0 1 rfl,b0j e b 1 2 rfl,b0j e b 2 3 rfl,b0f e b 1,b0f e b 2⟩
theorem v0d {p:List UInt8} {k0 k1 k2 k3 k4 k5 k6 k7 m0 m1 m2:Nat} {e1:List UInt8} {b1:Bool} {sf e2:List UInt8} {b2:Bool} {st e3:List UInt8} {b3:Bool} {e4:List UInt8} {b4:Bool} {r e5:List UInt8} {b5:Bool} (h:WIs p k0 k1 k2 k3 k4 k5 k6 k7 m0 m1 m2 e1 b1 sf e2 b2 st e3 b3 e4 b4 r e5 b5) {D:Wd} (hD:j0i p=D):wdOf p=c0j D r:=by unfold wdOf;rw [h.dr,hD]
theorem own_ne {w:World} {base Q:Nat} {ao:Option Addr} {cap:Nat} {l:List UInt8} (h:OwnB w base ao cap l) (hq:Q<base):0<l.length→∀ a,ao=some a→a.block≠Q:=fun _ a ha=>by
 subst ha
 have:=(d0a h a.block rfl).2
 omega
set_option maxHeartbeats 4000000 in
theorem v0w {W w:World} {L:List Th} {p g Q:Nat} {pp:List UInt8} {k0 k1 k2 k3 k4 k5 k6 k7 m0 m1 m2:Nat} {e1:List UInt8} {b1:Bool} {sf e2:List UInt8} {b2:Bool} {st e3:List UInt8} {b3:Bool} {e4:List UInt8} {b4:Bool} {r e5:List UInt8} {b5:Bool} (hI:WIs pp k0 k1 k2 k3 k4 k5 k6 k7 m0 m1 m2 e1 b1 sf e2 b2 st e3 b3 e4 b4 r e5 b5) (hpl:pp.length≤1048576) {D:Wd} (hD:D=⟨k0,k1,k2,k3,k4,k5,k6,k7,⟨sf.toArray⟩,⟨st.toArray⟩,rq0,zRp,mp0,ch0,[]⟩) (S0:St W w (thRR p g e3 b3::a0c Q (.cells (wdV D (.slice none 0 0) (.slice none 0 0)) 49 (0,0))::L)) (hr:r.length≤2000) :
 Calls Tryz.prog 62 #[.pointer (some ⟨p,0,none⟩),.pointer (some ⟨Q,0,none⟩)] w (z0g W L p g Q pp r k0):=by
 have HI:=uH hI
 have HD:=uH hD
 have S:=uH S0
 have Hpl:=uH hpl
 have hmp:D.mp=mp0:=by rw [hD]
 have hda:D.data=[]:=by rw [hD]
 have Hmp:=uH hmp
 have Hda:=uH hda
 clear hI hD S0 hpl hmp hda
 go_enter Tryz.func62,Tryz.ntmps62
 refine d0m fun R HR=>?_
 refine a0a fun C HC=>?_
 go_wp2_with fail
 ((have hC:=HC.out);clear HC;subst hC)
 refine a0a fun C HC=>?_
 go_wp2_with fail
 ((have hC:=HC.out);clear HC;subst hC)
 refine a0a fun CT HCT=>?_
 refine wp_seq ?_
 refine a0a fun C HC=>?_
 obtain ⟨c0,c1,c2,c3,c4,c5,c6,c7,c8,c9,c10,c11,c12,c13,c14,c15,c16,c17,c18,c19,c20,c21,c22,c23,c24,c25,c26,c27,c28,c29,c30,c31,c32,c33,c34,c35,c36⟩:=a0r (show w.heap[Q]?=some (.cells (wdV D (.slice none 0 0) (.slice none 0 0)) 49 (0,0)) from (S.out.pull (A:=[_])).head)
 have hk0:D.kind=k0:=by rw [HD.out]
 rw [hk0] at c0
 clear hk0 c1 c2 c3 c4 c5 c6 c7 c8 c9 c10 c11 c12 c13 c14 c15 c16 c17 c18 c19 c20 c21 c22 c23 c24 c25 c26 c27 c28 c29 c30 c31 c32 c33 c34 c35 c36
 go_wp2_with fail
 ((have hC:=HC.out);clear HC;subst hC)
 clear c0
 refine wp_block ?_
 by_cases k3x:(k0:Int)=3
 ·have t3:((k0:Int)==3)=true:=by rw [k3x];rfl
  ((refine a0a fun C HC=>?_);(go_wp2_with fail);(have hC:=HC.out);clear HC;subst hC;(refine wp_cond_true rfl ?_))
  have hR3:a0q e3 b3=(r,e5,b5):=by have h:=HI.out.hR;rw [HI.out.hN1 (by omega),HI.out.hN2 (by omega)] at h;exact h
  have HB:Hid (j0i pp=D):=by rw [HI.out.base,HD.out,if_neg (by omega)];exact uH rfl
  have hcall:=St.f0o S.out (by have:=HI.out.l3;have:=Hpl.out;omega)
  rw [hR3] at hcall
  have Hcall:=uH hcall
  clear hcall hR3
  go_wp2_with fail
  refine Hcall.out.mono ?_
  clear Hcall
  rintro e w2 ⟨ro,rc,rfl,ho,hS⟩
  dsimp only at ho hS ⊢
  have Hr:=uH ho.sl
  have S:=uH hS
  clear ho hS
  have hD:=(O.w0m ro rc r w2 Hr.out.n0 Hr.out.le Hr.out.cm Hr.out.at_ hr).mono (fun e w' h=>O.n0v h)
  obtain ⟨xm,hxm⟩:∃ x,x=O.xM r:=⟨_,rfl⟩
  obtain ⟨ex,hex⟩:∃ ex,ex=O.eM r:=⟨_,rfl⟩
  rw [←hxm,←hex] at hD
  have Hx:=uH hD
  have HX:=uH hxm
  have HE:=uH hex
  clear hD hxm hex
  go_wp2_with fail
  refine Hx.out.mono ?_
  rintro e w5 ⟨hb5,zo,zc,rfl,hz⟩
  have S:=uH (S.out.grow hb5)
  clear hb5
  obtain ⟨c0,c1,c2,c3,c4,c5,c6,c7,c8,c9,c10,c11,c12,c13,c14,c15,c16,c17,c18,c19,c20,c21,c22,c23,c24,c25,c26,c27,c28,c29,c30,c31,c32,c33,c34,c35,c36⟩:=a0r (show w5.heap[Q]?=some (.cells (wdV D (.slice none 0 0) (.slice none 0 0)) 49 (0,0)) from (S.out.pull (A:=[_])).head)
  have sQ:=(S.out.a0b 1 rfl).1
  obtain ⟨-,-,p3⟩:=S.out.a0b 1 rfl
  clear c0 c1 c2 c3 c4 c5 c6 c7 c8 c9 c10 c11 c12 c13 c14 c15 c16 c17 c18 c19 c20 c21 c22 c23 c24 c25 c26 c27 c31 c32 c33 c34 c35 c36
  go_wp2_with fail
  refine a0d fun w6 hw6=>?_
  obtain ⟨VX,hVX⟩:∃ VX,VX=wdV { D with mp:=xm } (.slice zo xm.zs.length zc) (.slice none 0 0):=⟨_,rfl⟩
  have S6:Hid (St W w6 (thRR p g e5 b5::a0c Q (.cells VX 49 (0,0))::L)):=by
   have h:=((((S.out.pull (A:=[_])).setObj 28 (aI aK xm.ver)).setObj 29 (aI aK xm.next)).setObj 30 (.slice zo xm.zs.length zc)).pull (A:=[_])
   rw [←hw6] at h
   have eV:((((wdV D (.slice none 0 0) (.slice none 0 0)).setIfInBounds 28 (aI aK xm.ver)).setIfInBounds 29 (aI aK xm.next)).setIfInBounds 30 (.slice zo xm.zs.length zc))=VX:=by
    rw [hVX]
    unfold wdV
    simp only [lA,lZ,lS]
   simp only [List.cons_append,List.nil_append] at h
   rw [eV] at h
   exact uH h
  have HVX:=uH hVX
  have Hz6:Hid (O.ZsAt w6 zo xm.zs):=uH (by
   have hne:=j0z (S.out.pull (A:=[_])).head hz
   rw [hw6]
   exact g0u (g0u (g0u hz hne) hne) hne)
  clear hw6 hVX c28 c29 c30 sQ p3 Hx
  have e1:b0p k0 r=O.e0f r:=by unfold b0p;rw [k3x];rfl
  (have hC:=HCT.out);clear HCT;subst hC
  obtain ⟨gb,hgb⟩:∃ gb,gb=O.e0f r:=⟨_,rfl⟩
  have Hg:=uH hgb
  have Heo:=uH e1
  clear hgb e1
  cases gb with
  | false =>
   have e2:(ex==0)=false:=by rw [HE.out,Hg.out];exact eM_is r
   go_wp2_with fail
   (have hR:=HR.out);clear HR;subst hR
   go_ret
   exact ⟨VX,e5,b5,S6.out,by rw [Heo.out,←Hg.out];rfl,fun h=>by rw [Heo.out,←Hg.out] at h;cases h⟩
  | true =>
   have e2:(ex==0)=true:=by rw [HE.out,Hg.out];exact eM_is r
   have HgT:=Hg
   obtain ⟨q,hq⟩:∃ q,q=(!b5&&e5.isEmpty):=⟨_,rfl⟩
   have hwh:=e0c p g e5 b5 w6 S6.out.head
   rw [←hq] at hwh
   have Hwh:=uH hwh
   have HQ:=uH hq
   clear hwh hq
   go_wp2_with fail
   refine Hwh.out.mono ?_
   rintro e w7 ⟨rfl,rfl⟩
   go_wp2_with fail
   (have hR:=HR.out);clear HR;subst hR
   go_ret
   refine ⟨VX,e5,b5,S6.out,by rw [Heo.out,←HgT.out,HI.out.wh,←HQ.out];rfl,fun _=>?_⟩
   have hg:=HgT.out.symm
   have ex2:(O.decM r).1=xm:=by rw [HX.out];exact (u0y hg).1.symm
   rw [v0d HI.out HB.out,show c0j D r={ D with mp:=(O.decM r).1 } from by unfold c0j;rw [show D.kind=3 from by rw [HD.out];exact k3x];rfl,ex2]
   dsimp only
   exact ⟨zo,zc,none,0,by rw [HVX.out,Hda.out];rfl,Hz6.out,by rw [Hda.out];exact d0p _⟩
 have t3:((k0:Int)==3)=false:=by rw [beq_eq_false_iff_ne];exact k3x
 ((refine a0a fun C HC=>?_);(go_wp2_with fail);(have hC:=HC.out);clear HC;subst hC;(refine wp_cond_false rfl ?_))
 by_cases k4x:(k0:Int)=4
 ·have t4:((k0:Int)==4)=true:=by rw [k4x];rfl
  ((refine a0a fun C HC=>?_);(go_wp2_with fail);(have hC:=HC.out);clear HC;subst hC;(refine wp_cond_true rfl ?_))
  have hR3:a0q e3 b3=(r,e5,b5):=by have h:=HI.out.hR;rw [HI.out.hN1 (by omega),HI.out.hN2 (by omega)] at h;exact h
  have HB:Hid (j0i pp=D):=by rw [HI.out.base,HD.out,if_neg (by omega)];exact uH rfl
  have hcall:=St.f0o S.out (by have:=HI.out.l3;have:=Hpl.out;omega)
  rw [hR3] at hcall
  have Hcall:=uH hcall
  clear hcall hR3
  go_wp2_with fail
  refine Hcall.out.mono ?_
  clear Hcall
  rintro e w2 ⟨ro,rc,rfl,ho,hS⟩
  dsimp only at ho hS ⊢
  have Hr:=uH ho.sl
  have S:=uH hS
  clear ho hS
  have hD:=(O.w0n ro rc r w2 Hr.out.n0 Hr.out.le Hr.out.cm Hr.out.at_ hr).mono (fun e w' h=>O.t0c h)
  obtain ⟨xc,hxm⟩:∃ x,x=O.xC r:=⟨_,rfl⟩
  obtain ⟨ex,hex⟩:∃ ex,ex=O.eC r:=⟨_,rfl⟩
  rw [←hxm,←hex] at hD
  have Hx:=uH hD
  have HX:=uH hxm
  have HE:=uH hex
  clear hD hxm hex
  go_wp2_with fail
  refine Hx.out.mono ?_
  rintro e w5 ⟨hb5,rfl⟩
  have S:=uH (S.out.grow hb5)
  clear hb5
  obtain ⟨c0,c1,c2,c3,c4,c5,c6,c7,c8,c9,c10,c11,c12,c13,c14,c15,c16,c17,c18,c19,c20,c21,c22,c23,c24,c25,c26,c27,c28,c29,c30,c31,c32,c33,c34,c35,c36⟩:=a0r (show w5.heap[Q]?=some (.cells (wdV D (.slice none 0 0) (.slice none 0 0)) 49 (0,0)) from (S.out.pull (A:=[_])).head)
  have sQ:=(S.out.a0b 1 rfl).1
  obtain ⟨-,-,p3⟩:=S.out.a0b 1 rfl
  clear c0 c1 c2 c3 c4 c5 c6 c7 c8 c9 c10 c11 c12 c13 c14 c15 c16 c17 c18 c19 c20 c21 c22 c23 c24 c25 c26 c27 c28 c29 c30 c36
  go_wp2_with fail
  refine a0d fun w6 hw6=>?_
  obtain ⟨VX,hVX⟩:∃ VX,VX=wdV { D with ch:=xc } (.slice none 0 0) (.slice none 0 0):=⟨_,rfl⟩
  have S6:Hid (St W w6 (thRR p g e5 b5::a0c Q (.cells VX 49 (0,0))::L)):=by
   have h:=((((((S.out.pull (A:=[_])).setObj 31 (aI aK xc.kind)).setObj 32 (aI aK xc.zone)).setObj 33 (aI aK xc.epoch)).setObj 34 (aI aK xc.tt)).setObj 35 (aS xc.key)).pull (A:=[_])
   rw [←hw6] at h
   have eV:((((((wdV D (.slice none 0 0) (.slice none 0 0)).setIfInBounds 31 (aI aK xc.kind)).setIfInBounds 32 (aI aK xc.zone)).setIfInBounds 33 (aI aK xc.epoch)).setIfInBounds 34 (aI aK xc.tt)).setIfInBounds 35 (aS xc.key))=VX:=by
    rw [hVX]
    unfold wdV
    simp only [lA,lZ,lS]
   simp only [List.cons_append,List.nil_append] at h
   rw [eV] at h
   exact uH h
  have HVX:=uH hVX
  clear hw6 hVX c31 c32 c33 c34 c35 sQ p3 Hx
  have e1:b0p k0 r=O.f0w r:=by unfold b0p;rw [k4x];rfl
  (have hC:=HCT.out);clear HCT;subst hC
  obtain ⟨gb,hgb⟩:∃ gb,gb=O.f0w r:=⟨_,rfl⟩
  have Hg:=uH hgb
  have Heo:=uH e1
  clear hgb e1
  cases gb with
  | false =>
   have e2:(ex==0)=false:=by rw [HE.out,Hg.out];exact eC_is r
   go_wp2_with fail
   (have hR:=HR.out);clear HR;subst hR
   go_ret
   exact ⟨VX,e5,b5,S6.out,by rw [Heo.out,←Hg.out];rfl,fun h=>by rw [Heo.out,←Hg.out] at h;cases h⟩
  | true =>
   have e2:(ex==0)=true:=by rw [HE.out,Hg.out];exact eC_is r
   have HgT:=Hg
   obtain ⟨q,hq⟩:∃ q,q=(!b5&&e5.isEmpty):=⟨_,rfl⟩
   have hwh:=e0c p g e5 b5 w6 S6.out.head
   rw [←hq] at hwh
   have Hwh:=uH hwh
   have HQ:=uH hq
   clear hwh hq
   go_wp2_with fail
   refine Hwh.out.mono ?_
   rintro e w7 ⟨rfl,rfl⟩
   go_wp2_with fail
   (have hR:=HR.out);clear HR;subst hR
   go_ret
   refine ⟨VX,e5,b5,S6.out,by rw [Heo.out,←HgT.out,HI.out.wh,←HQ.out];rfl,fun _=>?_⟩
   have hg:=HgT.out.symm
   have ex2:(O.decC r).1=xc:=by rw [HX.out];exact (v0a hg).symm
   rw [v0d HI.out HB.out,show c0j D r={ D with ch:=(O.decC r).1 } from by unfold c0j;rw [show D.kind=4 from by rw [HD.out];exact k4x];rfl,ex2]
   dsimp only
   exact ⟨none,0,none,0,by rw [HVX.out,Hmp.out,Hda.out];rfl,by rw [Hmp.out];exact d0c _,by rw [Hda.out];exact d0p _⟩
 have t4:((k0:Int)==4)=false:=by rw [beq_eq_false_iff_ne];exact k4x
 ((refine a0a fun C HC=>?_);(go_wp2_with fail);(have hC:=HC.out);clear HC;subst hC;(refine wp_cond_false rfl ?_))
 by_cases k5x:(k0:Int)=5
 ·have t5:((k0:Int)==5)=true:=by rw [k5x];rfl
  ((refine a0a fun C HC=>?_);(go_wp2_with fail);(have hC:=HC.out);clear HC;subst hC;(refine wp_cond_true rfl ?_))
  have hR3:a0q e3 b3=(r,e5,b5):=by have h:=HI.out.hR;rw [HI.out.hN1 (by omega),HI.out.hN2 (by omega)] at h;exact h
  have HB:Hid (j0i pp=D):=by rw [HI.out.base,HD.out,if_neg (by omega)];exact uH rfl
  have hcall:=St.f0o S.out (by have:=HI.out.l3;have:=Hpl.out;omega)
  rw [hR3] at hcall
  have Hcall:=uH hcall
  clear hcall hR3
  go_wp2_with fail
  refine Hcall.out.mono ?_
  clear Hcall
  rintro e w2 ⟨ro,rc,rfl,ho,hS⟩
  dsimp only at ho hS ⊢
  have Hr:=uH ho.sl
  have S:=uH hS
  clear ho hS
  have hD:=(rdec_any ro rc r w2 Hr.out.le Hr.out.cm Hr.out.n0 Hr.out.at_ hr).mono (fun e w' h=>t0b h)
  obtain ⟨xo,hxm⟩:∃ x,x=xO r:=⟨_,rfl⟩
  obtain ⟨ex,hex⟩:∃ ex,ex=eO r:=⟨_,rfl⟩
  rw [←hxm,←hex] at hD
  have Hx:=uH hD
  have HX:=uH hxm
  have HE:=uH hex
  clear hD hxm hex
  go_wp2_with fail
  refine Hx.out.mono ?_
  rintro e w5 ⟨hb5,rfl⟩
  have S:=uH (S.out.grow hb5)
  clear hb5
  obtain ⟨c0,c1,c2,c3,c4,c5,c6,c7,c8,c9,c10,c11,c12,c13,c14,c15,c16,c17,c18,c19,c20,c21,c22,c23,c24,c25,c26,c27,c28,c29,c30,c31,c32,c33,c34,c35,c36⟩:=a0r (show w5.heap[Q]?=some (.cells (wdV D (.slice none 0 0) (.slice none 0 0)) 49 (0,0)) from (S.out.pull (A:=[_])).head)
  have sQ:=(S.out.a0b 1 rfl).1
  obtain ⟨-,-,p3⟩:=S.out.a0b 1 rfl
  clear c0 c1 c2 c3 c4 c5 c6 c7 c8 c9 c22 c23 c24 c25 c26 c27 c28 c29 c30 c31 c32 c33 c34 c35 c36
  go_wp2_with fail
  refine a0d fun w6 hw6=>?_
  obtain ⟨VX,hVX⟩:∃ VX,VX=wdV { D with op:=xo } (.slice none 0 0) (.slice none 0 0):=⟨_,rfl⟩
  have S6:Hid (St W w6 (thRR p g e5 b5::a0c Q (.cells VX 49 (0,0))::L)):=by
   have h:=(((((((((((((S.out.pull (A:=[_])).setObj 10 (aI aK xo.kind)).setObj 11 (aI aK xo.client)).setObj 12 (aI aK xo.seq)).setObj 13 (aS xo.key)).setObj 14 (aS xo.who)).setObj 15 (aS xo.tkey)).setObj 16 (aS xo.twho)).setObj 17 (aI aK xo.item)).setObj 18 (aI aK xo.count)).setObj 19 (aI aK xo.price)).setObj 20 (aB xo.buy)).setObj 21 (aI aK xo.id)).pull (A:=[_])
   rw [←hw6] at h
   have eV:(((((((((((((wdV D (.slice none 0 0) (.slice none 0 0)).setIfInBounds 10 (aI aK xo.kind)).setIfInBounds 11 (aI aK xo.client)).setIfInBounds 12 (aI aK xo.seq)).setIfInBounds 13 (aS xo.key)).setIfInBounds 14 (aS xo.who)).setIfInBounds 15 (aS xo.tkey)).setIfInBounds 16 (aS xo.twho)).setIfInBounds 17 (aI aK xo.item)).setIfInBounds 18 (aI aK xo.count)).setIfInBounds 19 (aI aK xo.price)).setIfInBounds 20 (aB xo.buy)).setIfInBounds 21 (aI aK xo.id))=VX:=by
    rw [hVX]
    unfold wdV
    simp only [lA,lZ,lS]
   simp only [List.cons_append,List.nil_append] at h
   rw [eV] at h
   exact uH h
  have HVX:=uH hVX
  clear hw6 hVX c10 c11 c12 c13 c14 c15 c16 c17 c18 c19 c20 c21 sQ p3 Hx
  have e1:b0p k0 r=goodD r:=by unfold b0p;rw [k5x];rfl
  (have hC:=HCT.out);clear HCT;subst hC
  obtain ⟨gb,hgb⟩:∃ gb,gb=goodD r:=⟨_,rfl⟩
  have Hg:=uH hgb
  have Heo:=uH e1
  clear hgb e1
  cases gb with
  | false =>
   have e2:(ex==0)=false:=by rw [HE.out,Hg.out];exact eO_is r
   go_wp2_with fail
   (have hR:=HR.out);clear HR;subst hR
   go_ret
   exact ⟨VX,e5,b5,S6.out,by rw [Heo.out,←Hg.out];rfl,fun h=>by rw [Heo.out,←Hg.out] at h;cases h⟩
  | true =>
   have e2:(ex==0)=true:=by rw [HE.out,Hg.out];exact eO_is r
   have HgT:=Hg
   obtain ⟨q,hq⟩:∃ q,q=(!b5&&e5.isEmpty):=⟨_,rfl⟩
   have hwh:=e0c p g e5 b5 w6 S6.out.head
   rw [←hq] at hwh
   have Hwh:=uH hwh
   have HQ:=uH hq
   clear hwh hq
   go_wp2_with fail
   refine Hwh.out.mono ?_
   rintro e w7 ⟨rfl,rfl⟩
   go_wp2_with fail
   (have hR:=HR.out);clear HR;subst hR
   go_ret
   refine ⟨VX,e5,b5,S6.out,by rw [Heo.out,←HgT.out,HI.out.wh,←HQ.out];rfl,fun _=>?_⟩
   have hg:=HgT.out.symm
   have ex2:dqQ (decD r)=xo:=by rw [HX.out];unfold xO;rw [if_pos hg]
   rw [v0d HI.out HB.out,show c0j D r={ D with op:=dqQ (decD r) } from by unfold c0j;rw [show D.kind=5 from by rw [HD.out];exact k5x];rfl,ex2]
   dsimp only
   exact ⟨none,0,none,0,by rw [HVX.out,Hmp.out,Hda.out];rfl,by rw [Hmp.out];exact d0c _,by rw [Hda.out];exact d0p _⟩
 have t5:((k0:Int)==5)=false:=by rw [beq_eq_false_iff_ne];exact k5x
 ((refine a0a fun C HC=>?_);(go_wp2_with fail);(have hC:=HC.out);clear HC;subst hC;(refine wp_cond_false rfl ?_))
 by_cases k6x:(k0:Int)=6
 ·have t6:((k0:Int)==6)=true:=by rw [k6x];rfl
  ((refine a0a fun C HC=>?_);(go_wp2_with fail);(have hC:=HC.out);clear HC;subst hC;(refine wp_cond_true rfl ?_))
  obtain ⟨x1,y1,x2,y2,q1,q2,q3,h1,h2⟩:=t0o e3 b3
  rw [←HI.out.n0] at q1
  rw [←HI.out.n1] at q2
  rw [←HI.out.n2,←HI.out.hS1 (by omega),←HI.out.hS2 (by omega)] at q3
  have Hq1:=uH q1
  have Hq2:=uH q2
  have Hq3:=uH q3
  have Hx1:=uH h1
  have Hx2:=uH h2
  clear q1 q2 q3 h1 h2
  refine a0a fun C HC=>?_
  go_wp2_with fail
  have hcall:=St.d0s S.out (by have:=HI.out.l3;have:=Hpl.out;have:=Hx1.out;have:=Hx2.out;omega)
  rw [Hq1.out] at hcall
  refine hcall.mono ?_
  clear hcall
  rintro e wn1 ⟨rfl,hS⟩
  have S:=uH hS
  dsimp only at S ⊢
  clear hS
  go_wp2_with fail
  have hcall:=St.d0s S.out (by have:=HI.out.l3;have:=Hpl.out;have:=Hx1.out;have:=Hx2.out;omega)
  rw [Hq2.out] at hcall
  refine hcall.mono ?_
  clear hcall
  rintro e wn2 ⟨rfl,hS⟩
  have S:=uH hS
  dsimp only at S ⊢
  clear hS
  go_wp2_with fail
  have hcall:=St.d0s S.out (by have:=HI.out.l3;have:=Hpl.out;have:=Hx1.out;have:=Hx2.out;omega)
  rw [Hq3.out] at hcall
  refine hcall.mono ?_
  clear hcall
  rintro e wn3 ⟨rfl,hS⟩
  have S:=uH hS
  dsimp only at S ⊢
  clear hS
  obtain ⟨c0,c1,c2,c3,c4,c5,c6,c7,c8,c9,c10,c11,c12,c13,c14,c15,c16,c17,c18,c19,c20,c21,c22,c23,c24,c25,c26,c27,c28,c29,c30,c31,c32,c33,c34,c35,c36⟩:=a0r (show wn3.heap[Q]?=some (.cells (wdV D (.slice none 0 0) (.slice none 0 0)) 49 (0,0)) from (S.out.pull (A:=[_])).head)
  have sQ:=(S.out.a0b 1 rfl).1
  obtain ⟨-,-,p3⟩:=S.out.a0b 1 rfl
  clear c0 c1 c2 c3 c4 c5 c6 c7 c8 c9 c13 c14 c15 c16 c17 c18 c19 c20 c21 c22 c23 c24 c25 c26 c27 c28 c29 c30 c31 c32 c33 c34 c35 c36
  go_wp2_with fail
  refine a0d fun wb hwb=>?_
  obtain ⟨D6,hD6⟩:∃ D6:Wd,D6={ D with op:={ rq0 with kind:=m0,client:=m1,seq:=m2 } }:=⟨_,rfl⟩
  have S:Hid (St W wb (thRR p g e4 b4::a0c Q (.cells (wdV D6 (.slice none 0 0) (.slice none 0 0)) 49 (0,0))::L)):=by
   have h:=(((S.out.pull (A:=[_])).setObj 10 (aI aK m0)).setObj 11 (aI aK m1)).setObj 12 (aI aK m2)
   have hv:(((wdV D (.slice none 0 0) (.slice none 0 0)).setIfInBounds 10 (aI aK m0)).setIfInBounds 11 (aI aK m1)).setIfInBounds 12 (aI aK m2)=wdV D6 (.slice none 0 0) (.slice none 0 0):=by rw [hD6,HD.out];rfl
   rw [hv,←hwb] at h
   exact h.pull (A:=[_])
  have HB:Hid (j0i pp=D6):=by rw [HI.out.base,hD6,HD.out,if_pos k6x];exact uH rfl
  have Hmp:Hid (D6.mp=mp0):=by rw [hD6];exact Hmp
  have Hda:Hid (D6.data=[]):=by rw [hD6];exact Hda
  have Hk6:Hid (D6.kind=6):=by rw [hD6,HD.out];exact k6x
  clear hwb hD6 c10 c11 c12 sQ p3 HD Hq1 Hq2 Hq3 Hx1 Hx2
  ((have hC:=HC.out);clear HC;subst hC)
  have hcall:=St.f0o S.out (by have:=HI.out.l4;have:=Hpl.out;omega)
  rw [HI.out.hR] at hcall
  have Hcall:=uH hcall
  clear hcall
  go_wp2_with fail
  refine Hcall.out.mono ?_
  clear Hcall
  rintro e w2 ⟨ro,rc,rfl,ho,hS⟩
  dsimp only at ho hS ⊢
  have Hr:=uH ho.sl
  have S:=uH hS
  clear ho hS
  have hD:=q0g ro rc r w2 Hr.out.le Hr.out.cm Hr.out.n0 Hr.out.at_ hr
  unfold t0h at hD
  obtain ⟨xr,hxm⟩:∃ x,x=repR r:=⟨_,rfl⟩
  obtain ⟨ex,hex⟩:∃ ex,ex=repE r:=⟨_,rfl⟩
  rw [←hxm,←hex] at hD
  have Hx:=uH hD
  have HX:=uH hxm
  have HE:=uH hex
  clear hD hxm hex
  go_wp2_with fail
  refine Hx.out.mono ?_
  rintro e w5 ⟨rfl,hb5⟩
  have S:=uH (S.out.grow hb5)
  clear hb5
  obtain ⟨c0,c1,c2,c3,c4,c5,c6,c7,c8,c9,c10,c11,c12,c13,c14,c15,c16,c17,c18,c19,c20,c21,c22,c23,c24,c25,c26,c27,c28,c29,c30,c31,c32,c33,c34,c35,c36⟩:=a0r (show w5.heap[Q]?=some (.cells (wdV D6 (.slice none 0 0) (.slice none 0 0)) 49 (0,0)) from (S.out.pull (A:=[_])).head)
  have sQ:=(S.out.a0b 1 rfl).1
  obtain ⟨-,-,p3⟩:=S.out.a0b 1 rfl
  clear c0 c1 c2 c3 c4 c5 c6 c7 c8 c9 c10 c11 c12 c13 c14 c15 c16 c17 c18 c19 c20 c21 c28 c29 c30 c31 c32 c33 c34 c35 c36
  go_wp2_with fail
  refine a0d fun w6 hw6=>?_
  obtain ⟨VX,hVX⟩:∃ VX,VX=wdV { D6 with rep:=xr } (.slice none 0 0) (.slice none 0 0):=⟨_,rfl⟩
  have S6:Hid (St W w6 (thRR p g e5 b5::a0c Q (.cells VX 49 (0,0))::L)):=by
   have h:=(((((((S.out.pull (A:=[_])).setObj 22 (aI aK xr.err)).setObj 23 (aI aK xr.id)).setObj 24 (aI aK xr.i.a)).setObj 25 (aI aK xr.i.b)).setObj 26 (aI aK xr.i.c)).setObj 27 (aI aK xr.i.d)).pull (A:=[_])
   rw [←hw6] at h
   have eV:(((((((wdV D6 (.slice none 0 0) (.slice none 0 0)).setIfInBounds 22 (aI aK xr.err)).setIfInBounds 23 (aI aK xr.id)).setIfInBounds 24 (aI aK xr.i.a)).setIfInBounds 25 (aI aK xr.i.b)).setIfInBounds 26 (aI aK xr.i.c)).setIfInBounds 27 (aI aK xr.i.d))=VX:=by
    rw [hVX]
    unfold wdV
    simp only [lA,lZ,lS]
   simp only [List.cons_append,List.nil_append] at h
   rw [eV] at h
   exact uH h
  have HVX:=uH hVX
  clear hw6 hVX c22 c23 c24 c25 c26 c27 sQ p3 Hx
  have e1:b0p k0 r=e0m r:=by unfold b0p;rw [k6x];rfl
  (have hC:=HCT.out);clear HCT;subst hC
  obtain ⟨gb,hgb⟩:∃ gb,gb=e0m r:=⟨_,rfl⟩
  have Hg:=uH hgb
  have Heo:=uH e1
  clear hgb e1
  cases gb with
  | false =>
   have e2:(ex==0)=false:=by rw [HE.out,Hg.out];exact q0b r
   go_wp2_with fail
   (have hR:=HR.out);clear HR;subst hR
   go_ret
   exact ⟨VX,e5,b5,S6.out,by rw [Heo.out,←Hg.out];rfl,fun h=>by rw [Heo.out,←Hg.out] at h;cases h⟩
  | true =>
   have e2:(ex==0)=true:=by rw [HE.out,Hg.out];exact q0b r
   have HgT:=Hg
   obtain ⟨q,hq⟩:∃ q,q=(!b5&&e5.isEmpty):=⟨_,rfl⟩
   have hwh:=e0c p g e5 b5 w6 S6.out.head
   rw [←hq] at hwh
   have Hwh:=uH hwh
   have HQ:=uH hq
   clear hwh hq
   go_wp2_with fail
   refine Hwh.out.mono ?_
   rintro e w7 ⟨rfl,rfl⟩
   go_wp2_with fail
   (have hR:=HR.out);clear HR;subst hR
   go_ret
   refine ⟨VX,e5,b5,S6.out,by rw [Heo.out,←HgT.out,HI.out.wh,←HQ.out];rfl,fun _=>?_⟩
   have hg:=HgT.out.symm
   have ex2:rpOf r=xr:=by rw [HX.out];exact (g0v hg).1.symm
   rw [v0d HI.out HB.out,show c0j D6 r={ D6 with rep:=rpOf r } from by unfold c0j;rw [show D6.kind=6 from Hk6.out];rfl,ex2]
   dsimp only
   exact ⟨none,0,none,0,by rw [HVX.out,Hmp.out,Hda.out];rfl,by rw [Hmp.out];exact d0c _,by rw [Hda.out];exact d0p _⟩
 have t6:((k0:Int)==6)=false:=by rw [beq_eq_false_iff_ne];exact k6x
 ((refine a0a fun C HC=>?_);(go_wp2_with fail);(have hC:=HC.out);clear HC;subst hC;(refine wp_cond_false rfl ?_))
 have hR3:a0q e3 b3=(r,e5,b5):=by have h:=HI.out.hR;rw [HI.out.hN1 (by omega),HI.out.hN2 (by omega)] at h;exact h
 have HB:Hid (j0i pp=D):=by rw [HI.out.base,HD.out,if_neg k6x];exact uH rfl
 have hcall:=St.f0o S.out (by have:=HI.out.l3;have:=Hpl.out;omega)
 rw [hR3] at hcall
 have Hcall:=uH hcall
 clear hcall hR3
 go_wp2_with fail
 refine Hcall.out.mono ?_
 clear Hcall
 rintro e w2 ⟨ro,rc,rfl,ho,hS⟩
 dsimp only at ho hS ⊢
 have Hqr:=uH (own_ne ho (S.out.a0b 1 rfl).1)
 have Hr:=uH ho.sl
 have S:=uH hS
 clear ho hS
 obtain ⟨c0,c1,c2,c3,c4,c5,c6,c7,c8,c9,c10,c11,c12,c13,c14,c15,c16,c17,c18,c19,c20,c21,c22,c23,c24,c25,c26,c27,c28,c29,c30,c31,c32,c33,c34,c35,c36⟩:=a0r (show w2.heap[Q]?=some (.cells (wdV D (.slice none 0 0) (.slice none 0 0)) 49 (0,0)) from (S.out.pull (A:=[_])).head)
 have sQ:=(S.out.a0b 1 rfl).1
 obtain ⟨-,-,p3⟩:=S.out.a0b 1 rfl
 clear c0 c1 c2 c3 c4 c5 c6 c7 c8 c9 c10 c11 c12 c13 c14 c15 c16 c17 c18 c19 c20 c21 c22 c23 c24 c25 c26 c27 c28 c29 c30 c31 c32 c33 c34 c35
 obtain ⟨n,hn⟩:∃ n,n=r.length:=⟨_,rfl⟩
 rw [←hn]
 have Hn:=uH hn
 clear hn
 go_wp2_with fail
 refine a0d fun w6 hw6=>?_
 have S6:=uH (((S.out.pull (A:=[_])).setObj 36 (.slice ro n rc)).pull (A:=[_]))
 have Hr6:Hid (F.Sl w6 ro rc r):=uH (by rw [hw6];exact r0x Hr.out Hqr.out)
 rw [←hw6] at S6
 clear hw6 c36 sQ p3
 (have hC:=HCT.out);clear HCT;subst hC
 obtain ⟨q,hq⟩:∃ q,q=(!b5&&e5.isEmpty):=⟨_,rfl⟩
 have hwh:=e0c p g e5 b5 w6 S6.out.head
 rw [←hq] at hwh
 have Hwh:=uH hwh
 have HQ:=uH hq
 clear hwh hq
 go_wp2_with fail
 refine Hwh.out.mono ?_
 rintro e w7 ⟨rfl,rfl⟩
 go_wp2_with fail
 (have hR:=HR.out);clear HR;subst hR
 go_ret
 have eo:b0p k0 r=true:=by unfold b0p;rw [if_neg k3x,if_neg k4x,if_neg k5x,if_neg k6x]
 have hkd:D.kind=k0:=by rw [HD.out]
 have ew:c0j D r={ D with data:=r }:=by unfold c0j;rw [hkd,if_neg k3x,if_neg k4x,if_neg k5x,if_neg k6x]
 refine ⟨_,e5,b5,S6.out,by rw [eo,HI.out.wh,←HQ.out];rfl,fun _=>?_⟩
 rw [v0d HI.out HB.out,ew]
 dsimp only
 refine ⟨none,0,ro,rc,?_,by rw [Hmp.out];exact d0c _,Hr6.out⟩
 have hz0:D.mp.zs.length=0:=by rw [Hmp.out];rfl
 rw [hz0,Hn.out]
 unfold wdV
 simp only [lA,lZ,lS]
set_option maxRecDepth 20000
open Go.RowKit
def sixW (d:Wd):List Int:=[d.zone,d.epoch,d.index,d.size,d.off,d.host]
theorem l0a (d:Wd):l0b d=true↔(∀ v∈sixW d,numW v=true)∧d.data.length≤131072:=by
 unfold l0b sixW
 simp only [Bool.and_eq_true,decide_eq_true_eq,List.mem_cons,List.not_mem_nil,or_false,forall_eq_or_imp,forall_eq]
 grind
set_option maxHeartbeats 4000000 in
theorem q0m {d:Wd} {ms ds:Value} {V:Array Value} (hV:V=wdV d ms ds) (dl:Option Addr) (dc:Nat) (hds:ds=.slice dl d.data.length dc) (w:World):Calls Tryz.prog 38 #[.agg V] w fun e w'=>e=.returned (aB (l0b d))∧Below w.heap.size w w':=by
 have HV:=uH hV
 clear hV
 obtain ⟨r,hr⟩:∃ r,r=l0b d:=⟨_,rfl⟩
 rw [←hr]
 have Hr:=uH hr
 clear hr
 go_enter Tryz.func38,Tryz.ntmps38
 ((refine a0a fun C HC=>?_);(go_wp2_with fail);(refine a0d fun wa hwa=>?_;have wa_s0:=sg w.heap.size hwa;have wa_b:Below w.heap.size w wa:=(by rw [hwa];exact bg);have wa_bh:wa.heap[w.heap.size]?=some (.cells V 49 (0,0)):=(by rw [hwa];exact heap_alloc_new w _);clear hwa);(obtain ⟨c0,c1,c2,c3,c4,c5,c6,c7,c8,c9,c10,c11,c12,c13,c14,c15,c16,c17,c18,c19,c20,c21,c22,c23,c24,c25,c26,c27,c28,c29,c30,c31,c32,c33,c34,c35,c36⟩:=a0r (show wa.heap[w.heap.size]?=some (.cells (wdV d ms ds) 49 (0,0)) from (by rw [←HV.out];exact wa_bh)));(have hC:=HC.out);clear HC;subst hC)
 subst hds
 obtain ⟨n,hn⟩:∃ n,n=d.data.length:=⟨_,rfl⟩
 rw [←hn] at c36
 have Hn:=uH hn
 clear hn c0 c7 c8 c9 c10 c11 c12 c13 c14 c15 c16 c17 c18 c19 c20 c21 c22 c23 c24 c25 c26 c27 c28 c29 c30 c31 c32 c33 c34 c35
 go_wp2_with fail
 refine a0d fun wb hwb=>?_
 obtain ⟨P,hP⟩:∃ P,P=wa.heap.size:=⟨_,rfl⟩
 have hab:Below wa.heap.size wa wb:=by rw [hwb];exact a0p _ _
 have hvs:Hid (∀ i,(hi:i<6)→∃ v,v∈sixW d∧(sixW d)[i]?=some v∧wb.cell? ⟨P,i,none⟩=some (aI aK v)):=uH fun i hi=>by
  have hh:wb.heap[P]?=some (.cells #[aI aK d.zone,aI aK d.epoch,aI aK d.index,aI aK d.size,aI aK d.off,aI aK d.host] 3 (0,0)):=by rw [hwb,hP];exact heap_alloc_new wa _
  have hc:=cell_of_row wb P i _ _ _ hh
  unfold sixW
  have:i=0∨i=1∨i=2∨i=3∨i=4∨i=5:=by omega
  rcases this with rfl | rfl | rfl | rfl | rfl | rfl
  ·exact ⟨d.zone,by simp,rfl,hc⟩
  ·exact ⟨d.epoch,by simp,rfl,hc⟩
  ·exact ⟨d.index,by simp,rfl,hc⟩
  ·exact ⟨d.size,by simp,rfl,hc⟩
  ·exact ⟨d.off,by simp,rfl,hc⟩
  ·exact ⟨d.host,by simp,rfl,hc⟩
 have sP:P<wb.heap.size:=by rw [hwb,hP];simp
 have c36:wb.cell? ⟨w.heap.size,36,none⟩=some (.slice dl n dc):=(((a0w hab).1 _ _ wa_s0).trans c36)
 have sB:w.heap.size<wb.heap.size:=Nat.lt_of_lt_of_le wa_s0 hab.size
 have wb_b:=wa_b.trans (hab.mono wa_b.size)
 rw [←hP]
 clear hwb hP hab c1 c2 c3 c4 c5 c6 wa_bh
 go_loopw [4] (fun s wr=>wr=wb∧∃ i:Nat,s=aI aK i∧i≤6∧Hid (∀ j v,j<i→(sixW d)[j]?=some v→numW v=true)) (fun s _=>6 - (intOf s).toNat)
 case atStart=>exact ⟨rfl,0,rfl,by omega,uH (fun j v h=>by omega)⟩
 case round =>
  obtain ⟨rfl,i,rfl,hi,Hs⟩:=hrel
  by_cases hlt:i<6
  ·obtain ⟨v,hv1,hv2,hv3⟩:=hvs.out i hlt
   have Hv:=uH (⟨hv1,hv2⟩:_∧_)
   clear hv1 hv2
   rcases Bool.eq_false_or_eq_true (decide (v<0)) with t1 | t1
   ·have hrf:Hid (r=false):=uH (by
     rw [Hr.out,Bool.eq_false_iff]
     intro h
     have:=((l0a d).1 h).1 v Hv.out.1
     simp only [numW,decide_eq_true_eq] at this t1
     omega)
    go_wp2_with fail
    go_ret
    exact ⟨by rw [hrf.out];rfl,wb_b⟩
   rcases Bool.eq_false_or_eq_true (decide (1099511627776<v)) with t2 | t2
   ·have hrf:Hid (r=false):=uH (by
     rw [Hr.out,Bool.eq_false_iff]
     intro h
     have:=((l0a d).1 h).1 v Hv.out.1
     simp only [numW,decide_eq_true_eq] at this t2
     omega)
    go_wp2_with fail
    go_ret
    exact ⟨by rw [hrf.out];rfl,wb_b⟩
   have Hnum:Hid (numW v=true):=uH (by simp only [numW,decide_eq_true_eq];rw [decide_eq_false_iff_not] at t1 t2;omega)
   go_wp2_with fail
   go_roundw
   case rel=>exact ⟨by trivial,i+1,by go_num,by omega,uH (fun j x hj hx=>by
    by_cases e:j=i
    ·subst e
     rw [Hv.out.2] at hx
     obtain rfl:=Option.some.inj hx
     exact Hnum.out
    ·exact Hs.out j x (by omega) hx)⟩
   case measure=>simp [intOf];omega
  ·have hrt:Hid (r=decide ((n:Int)≤131072)):=uH (by
    rw [Hr.out,Bool.eq_iff_iff,l0a,decide_eq_true_eq,Hn.out]
    refine ⟨fun h=>by omega,fun h=>⟨fun v hv=>?_,by omega⟩⟩
    obtain ⟨j,hj,e⟩:=List.mem_iff_getElem.1 hv
    have hj6:j<6:=hj
    exact Hs.out j v (by omega) (by rw [List.getElem?_eq_getElem hj,e]))
   go_wp2_with fail
   go_ret
   exact ⟨by rw [hrt.out];rfl,wb_b⟩
def ansD (w:Wd):Bool:=eqR w.op (n0p w.op)&&decide (1≤w.op.kind∧w.op.kind≤7∧1≤w.op.client∧w.op.client≤1048576∧1≤w.op.seq∧w.op.seq≤1099511627776∧0≤w.err∧w.err≤19)&&mayR w.rep&&(decide (w.err=0) || eqRp w.rep zRp)
set_option maxHeartbeats 4000000 in
theorem r0l {d:Wd} {ms ds:Value} {V:Array Value} (hV:V=wdV d ms ds) (w:World):Calls Tryz.prog 36 #[.agg V] w fun e w'=>e=.returned (aB (ansD d))∧Below w.heap.size w w':=by
 have HV:=uH hV
 clear hV
 obtain ⟨r,hr⟩:∃ r,r=ansD d:=⟨_,rfl⟩
 rw [←hr]
 obtain ⟨q,hq⟩:∃ q,q=eqR d.op (n0p d.op):=⟨_,rfl⟩
 obtain ⟨m,hm⟩:∃ m,m=mayR d.rep:=⟨_,rfl⟩
 obtain ⟨z,hz⟩:∃ z,z=eqRp d.rep zRp:=⟨_,rfl⟩
 have heq1:=fun w=>eql_api.Op d.op (n0p d.op) w q hq.symm
 have heq2:=fun w=>q0v d.rep zRp w z hz.symm
 have Hmr:=uH (fun w=>qsatrapyref10.g0t d.rep w m hm.symm)
 have Hr:Hid (r=(q&&decide (1≤d.op.kind∧d.op.kind≤7∧1≤d.op.client∧d.op.client≤1048576∧1≤d.op.seq∧d.op.seq≤1099511627776∧0≤d.err∧d.err≤19)&&m&&(decide (d.err=0) || z))):=uH (by rw [hr,hq,hm,hz];rfl)
 simp only [n0p,rq0] at heq1
 simp only [zRp] at heq2
 have he0:e0=⟨#[]⟩:=rfl
 rw [he0] at heq1
 clear hr hq hm hz he0
 go_enter Tryz.func36,Tryz.ntmps36
 ((refine a0a fun C HC=>?_);(go_wp2_with fail);(refine a0d fun wa hwa=>?_;have wa_s0:=sg w.heap.size hwa;have wa_b:Below w.heap.size w wa:=(by rw [hwa];exact bg);have wa_bh:wa.heap[w.heap.size]?=some (.cells V 49 (0,0)):=(by rw [hwa];exact heap_alloc_new w _);clear hwa);(obtain ⟨c0,c1,c2,c3,c4,c5,c6,c7,c8,c9,c10,c11,c12,c13,c14,c15,c16,c17,c18,c19,c20,c21,c22,c23,c24,c25,c26,c27,c28,c29,c30,c31,c32,c33,c34,c35,c36⟩:=a0r (show wa.heap[w.heap.size]?=some (.cells (wdV d ms ds) 49 (0,0)) from (by rw [←HV.out];exact wa_bh)));(have hC:=HC.out);clear HC;subst hC)
 clear c0 c1 c2 c3 c4 c5 c6 c8 c9 c28 c29 c30 c31 c32 c33 c34 c35 c36
 refine a0a fun C HC=>?_
 go_wp2_with fail
 refine a0d fun w2 hw2=>?_
 have w2_h:Below wa.heap.size wa w2:=by rw [hw2];exact (Below.refl _ _).alloc (Nat.le_refl _) _
 have w2_n:w2.heap[wa.heap.size]?=some _:=(by rw [hw2];exact heap_alloc_new wa _)
 have b0:=cell_of_row w2 wa.heap.size 0 _ _ _ w2_n
 have b1:=cell_of_row w2 wa.heap.size 1 _ _ _ w2_n
 have b2:=cell_of_row w2 wa.heap.size 2 _ _ _ w2_n
 have b3:=cell_of_row w2 wa.heap.size 3 _ _ _ w2_n
 have b4:=cell_of_row w2 wa.heap.size 4 _ _ _ w2_n
 have b5:=cell_of_row w2 wa.heap.size 5 _ _ _ w2_n
 have b6:=cell_of_row w2 wa.heap.size 6 _ _ _ w2_n
 have b7:=cell_of_row w2 wa.heap.size 7 _ _ _ w2_n
 have b8:=cell_of_row w2 wa.heap.size 8 _ _ _ w2_n
 have b9:=cell_of_row w2 wa.heap.size 9 _ _ _ w2_n
 have b10:=cell_of_row w2 wa.heap.size 10 _ _ _ w2_n
 have b11:=cell_of_row w2 wa.heap.size 11 _ _ _ w2_n
 have w2_bh:=(w2_h.block _ wa_s0).trans wa_bh
 have w2_b:=wa_b.trans (w2_h.mono wa_b.size)
 have sB:w.heap.size<w2.heap.size:=Nat.lt_of_lt_of_le wa_s0 w2_h.size
 clear c7 c10 c11 c12 c13 c14 c15 c16 c17 c18 c19 c20 c21 c22 c23 c24 c25 c26 c27 wa_bh w2_n w2_h hw2
 (have hC:=HC.out);clear HC;subst hC
 refine a0a fun C HC=>?_
 refine wp_seq ?_
 refine wp_seq ?_
 refine wp_region_lit ?_
 refine a0s 9 fun L HL=>?_
 simp only [List.cons_append,List.nil_append,List.take_succ_cons,List.take_zero]
 go_wp2_with fail
 clear heq1 b3 b4 b5 b6 b7 b8 b9 b10 b11
 generalize Value.agg #[aI aK d.op.kind,aI aK d.op.client,aI aK d.op.seq,aS d.op.key,aS d.op.who,aS d.op.tkey,aS d.op.twho,aI aK d.op.item,aI aK d.op.count,aI aK d.op.price,aB d.op.buy,aI aK d.op.id]=j1
 (have hL:=HL.out);clear HL;subst hL
 simp only [List.drop_succ_cons,List.drop_zero]
 cases q with
 | false =>
  go_wp2_with fail
  go_ret
  exact ⟨by rw [Hr.out];rfl,w2_b⟩
 | true =>
  go_wp2_with fail
  all_goals try (go_ret;refine ⟨?_,w2_b⟩;rw [Hr.out,decide_eq_false (p:=_∧_) (by omega)];rfl)
  (have hC:=HC.out);clear HC;subst hC
  obtain ⟨c0,c1,c2,c3,c4,c5,c6,c7,c8,c9,c10,c11,c12,c13,c14,c15,c16,c17,c18,c19,c20,c21,c22,c23,c24,c25,c26,c27,c28,c29,c30,c31,c32,c33,c34,c35,c36⟩:=a0r (show w2.heap[w.heap.size]?=some (.cells (wdV d ms ds) 49 (0,0)) from (by rw [←HV.out];exact w2_bh))
  clear c0 c1 c2 c3 c4 c5 c6 c8 c9 c10 c11 c12 c13 c14 c15 c16 c17 c18 c19 c20 c21 c28 c29 c30 c31 c32 c33 c34 c35 c36 b0 b1 b2 w2_bh
  go_wp2_with fail
  all_goals try (go_ret;refine ⟨?_,w2_b⟩;rw [Hr.out,decide_eq_false (p:=_∧_) (by omega)];rfl)
  refine (Hmr.out _).mono ?_
  rintro e w4 ⟨rfl,hb4⟩
  have w4_b:=w2_b.trans (hb4.mono w2_b.size)
  obtain ⟨w4_hc,-⟩:=a0w hb4
  have w4_z:=hb4.size
  clear hb4
  have hm8:Hid (1≤d.op.kind∧d.op.kind≤7∧1≤d.op.client∧d.op.client≤1048576∧1≤d.op.seq∧d.op.seq≤1099511627776∧0≤d.err∧d.err≤19):=uH (by refine ⟨?_,?_,?_,?_,?_,?_,?_,?_⟩<;>omega)
  cases m with
  | false =>
   go_wp2_with fail
   go_ret
   refine ⟨?_,w4_b⟩
   rw [Hr.out,decide_eq_true hm8.out]
   rfl
  | true =>
   by_cases hz0:d.err=0
   ·have hz1:(d.err==0)=true:=by rw [hz0];rfl
    go_wp2_with fail
    go_ret
    refine ⟨?_,w4_b⟩
    rw [Hr.out,decide_eq_true hm8.out,decide_eq_true hz0]
    rfl
   ·have hz1:(d.err==0)=false:=by rw [beq_eq_false_iff_ne];exact hz0
    cases z with
    | false =>
     go_wp2_with fail
     go_ret
     refine ⟨?_,w4_b⟩
     rw [Hr.out,decide_eq_true hm8.out,decide_eq_false hz0]
     rfl
    | true =>
     go_wp2_with fail
     go_ret
     refine ⟨?_,w4_b⟩
     rw [Hr.out,decide_eq_true hm8.out,decide_eq_false hz0]
     rfl
end Go.Proofs.YtogamdaomdoapaaGreat