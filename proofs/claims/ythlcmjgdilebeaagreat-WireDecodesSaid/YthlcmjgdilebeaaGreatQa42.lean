/- Texts put together: WRr. -/
import Derived.Test.YthlcmjgdilebeaaGreatQa19
import Derived.Test.YthlcmjgdilebeaaGreatQa33
import Derived.Test.YthlcmjgdilebeaaGreatQa35
import Derived.Test.YthlcmjgdilebeaaGreatQa36
import Derived.Test.YthlcmjgdilebeaaGreatQa41
namespace Go.Proofs.YthlcmjgdilebeaaGreat
set_option maxRecDepth 20000
open Go.RowKit
def RRestPost (W:World) (L:List Th) (p g Q:Nat) (pp r:List UInt8) (k:Int) (e:Ending) (w':World):Prop :=
 ∃ VQ e' b',St W w' (thRR p g e' b'::thObj Q (.cells VQ 46 (0,0))::L)∧e=.returned (.bool (okRest k r&&wholeW pp))∧(okRest k r=true→∃ mo zc dl dc,VQ=wdV (wdOf pp) (.slice mo (wdOf pp).mp.zs.length zc) (.slice dl (wdOf pp).data.length dc)∧O.ZsAt w' mo (wdOf pp).mp.zs∧F.Sl w' dl dc (wdOf pp).data)
theorem three_nums (e:List UInt8) (b:Bool):∃ x1 y1 x2 y2,numT e b=(rdVal e b 0,x1,y1)∧numT x1 y1=(rdVal e b 1,x2,y2)∧numT x2 y2=(rdVal e b 2,(rdSt e b 3).1,(rdSt e b 3).2)∧x1.length≤e.length∧x2.length≤e.length :=
 ⟨_,_,_,_,rd_step e b 0 1 rfl,rd_step e b 1 2 rfl,rd_step e b 2 3 rfl,rdSt_le e b 1,rdSt_le e b 2⟩
theorem wd_is {p:List UInt8} {k0 k1 k2 k3 k4 k5 k6 k7 m0 m1 m2:Nat} {e1:List UInt8} {b1:Bool} {sf e2:List UInt8} {b2:Bool} {st e3:List UInt8} {b3:Bool} {e4:List UInt8} {b4:Bool} {r e5:List UInt8} {b5:Bool} (h:WIs p k0 k1 k2 k3 k4 k5 k6 k7 m0 m1 m2 e1 b1 sf e2 b2 st e3 b3 e4 b4 r e5 b5) {D:Wd} (hD:baseW p=D):wdOf p=withW D r:=by unfold wdOf;rw [h.dr,hD]
theorem own_ne {w:World} {base Q:Nat} {ao:Option Addr} {cap:Nat} {l:List UInt8} (h:OwnB w base ao cap l) (hq:Q<base):0<l.length→∀ a,ao=some a→a.block≠Q:=fun _ a ha=>by
 subst ha
 have:=(own_lt h a.block rfl).2
 omega
set_option maxHeartbeats 4000000 in
theorem rrest_any {W w:World} {L:List Th} {p g Q:Nat} {pp:List UInt8} {k0 k1 k2 k3 k4 k5 k6 k7 m0 m1 m2:Nat} {e1:List UInt8} {b1:Bool} {sf e2:List UInt8} {b2:Bool} {st e3:List UInt8} {b3:Bool} {e4:List UInt8} {b4:Bool} {r e5:List UInt8} {b5:Bool} (hI:WIs pp k0 k1 k2 k3 k4 k5 k6 k7 m0 m1 m2 e1 b1 sf e2 b2 st e3 b3 e4 b4 r e5 b5) (hpl:pp.length≤1048576) {D:Wd} (hD:D=⟨k0,k1,k2,k3,k4,k5,k6,k7,⟨sf.toArray⟩,⟨st.toArray⟩,rq0,zRp,mp0,ch0,[]⟩) (S0:St W w (thRR p g e3 b3::thObj Q (.cells (wdV D (.slice none 0 0) (.slice none 0 0)) 46 (0,0))::L)) (hr:r.length≤2000) :
 Calls Tryz.prog 48 #[.pointer (some ⟨p,0,none⟩),.pointer (some ⟨Q,0,none⟩)] w (RRestPost W L p g Q pp r k0):=by
 have HI:=Lib.hid hI
 have HD:=Lib.hid hD
 have S:=Lib.hid S0
 have Hpl:=Lib.hid hpl
 have hmp:D.mp=mp0:=by rw [hD]
 have hda:D.data=[]:=by rw [hD]
 have Hmp:=Lib.hid hmp
 have Hda:=Lib.hid hda
 clear hI hD S0 hpl hmp hda
 go_enter Tryz.func48,Tryz.ntmps48
 refine wp_holdQ fun R HR=>?_
 refine wp_hold fun C HC=>?_
 go_wp2_with fail
 ((have hC:=HC.out);clear HC;subst hC)
 refine wp_hold fun C HC=>?_
 go_wp2_with fail
 ((have hC:=HC.out);clear HC;subst hC)
 refine wp_hold fun CT HCT=>?_
 refine wp_seq ?_
 refine wp_hold fun C HC=>?_
 obtain ⟨c0,c1,c2,c3,c4,c5,c6,c7,c8,c9,c10,c11,c12,c13,c14,c15,c16,c17,c18,c19,c20,c21,c22,c23,c24,c25,c26,c27,c28,c29,c30,c31,c32,c33,c34,c35,c36⟩:=wboxD (show w.heap[Q]?=some (.cells (wdV D (.slice none 0 0) (.slice none 0 0)) 46 (0,0)) from (S.out.pull (A:=[_])).head)
 have hk0:D.kind=k0:=by rw [HD.out]
 rw [hk0] at c0
 clear hk0 c1 c2 c3 c4 c5 c6 c7 c8 c9 c10 c11 c12 c13 c14 c15 c16 c17 c18 c19 c20 c21 c22 c23 c24 c25 c26 c27 c28 c29 c30 c31 c32 c33 c34 c35 c36
 go_wp2_with fail
 ((have hC:=HC.out);clear HC;subst hC)
 clear c0
 refine wp_block ?_
 by_cases k3x:(k0:Int)=3
 ·have t3:((k0:Int)==3)=true:=by rw [k3x];rfl
  ((refine wp_hold fun C HC=>?_);(go_wp2_with fail);(have hC:=HC.out);clear HC;subst hC;(refine wp_cond_true rfl ?_))
  have hR3:tookOf e3 b3=(r,e5,b5):=by have h:=HI.out.hR;rw [HI.out.hN1 (by omega),HI.out.hN2 (by omega)] at h;exact h
  have HB:Hid (baseW pp=D):=by rw [HI.out.base,HD.out,if_neg (by omega)];exact Lib.hid rfl
  have hcall:=St.readBytesR S.out (by have:=HI.out.l3;have:=Hpl.out;omega)
  rw [hR3] at hcall
  have Hcall:=Lib.hid hcall
  clear hcall hR3
  go_wp2_with fail
  refine Hcall.out.mono ?_
  clear Hcall
  rintro e w2 ⟨ro,rc,rfl,ho,hS⟩
  dsimp only at ho hS ⊢
  have Hr:=Lib.hid ho.sl
  have S:=Lib.hid hS
  clear ho hS
  have hD:=(O.rdecM_any ro rc r w2 Hr.out.n0 Hr.out.le Hr.out.cm Hr.out.at_ hr).mono (fun e w' h=>O.decM_one h)
  obtain ⟨xm,hxm⟩:∃ x,x=O.xM r:=⟨_,rfl⟩
  obtain ⟨ex,hex⟩:∃ ex,ex=O.eM r:=⟨_,rfl⟩
  rw [←hxm,←hex] at hD
  have Hx:=Lib.hid hD
  have HX:=Lib.hid hxm
  have HE:=Lib.hid hex
  clear hD hxm hex
  go_wp2_with fail
  refine Hx.out.mono ?_
  rintro e w5 ⟨hb5,zo,zc,rfl,hz⟩
  have S:=Lib.hid (S.out.grow hb5)
  clear hb5
  obtain ⟨c0,c1,c2,c3,c4,c5,c6,c7,c8,c9,c10,c11,c12,c13,c14,c15,c16,c17,c18,c19,c20,c21,c22,c23,c24,c25,c26,c27,c28,c29,c30,c31,c32,c33,c34,c35,c36⟩:=wboxD (show w5.heap[Q]?=some (.cells (wdV D (.slice none 0 0) (.slice none 0 0)) 46 (0,0)) from (S.out.pull (A:=[_])).head)
  have sQ:=(S.out.cellsN 1 rfl).1
  obtain ⟨-,-,p3⟩:=S.out.cellsN 1 rfl
  clear c0 c1 c2 c3 c4 c5 c6 c7 c8 c9 c10 c11 c12 c13 c14 c15 c16 c17 c18 c19 c20 c21 c22 c23 c24 c25 c26 c27 c31 c32 c33 c34 c35 c36
  go_wp2_with fail
  refine wp_name fun w6 hw6=>?_
  obtain ⟨VX,hVX⟩:∃ VX,VX=wdV { D with mp:=xm } (.slice zo xm.zs.length zc) (.slice none 0 0):=⟨_,rfl⟩
  have S6:Hid (St W w6 (thRR p g e5 b5::thObj Q (.cells VX 46 (0,0))::L)):=by
   have h:=((((S.out.pull (A:=[_])).setObj 28 (.int .i64 xm.ver)).setObj 29 (.int .i64 xm.next)).setObj 30 (.slice zo xm.zs.length zc)).pull (A:=[_])
   rw [←hw6] at h
   have eV:((((wdV D (.slice none 0 0) (.slice none 0 0)).setIfInBounds 28 (.int .i64 xm.ver)).setIfInBounds 29 (.int .i64 xm.next)).setIfInBounds 30 (.slice zo xm.zs.length zc))=VX:=by
    rw [hVX]
    unfold wdV
    simp only [List.setIfInBounds_toArray,List.set_cons_zero,List.set_cons_succ]
   simp only [List.cons_append,List.nil_append] at h
   rw [eV] at h
   exact Lib.hid h
  have HVX:=Lib.hid hVX
  have Hz6:Hid (O.ZsAt w6 zo xm.zs):=Lib.hid (by
   have hne:=zs_apart (S.out.pull (A:=[_])).head hz
   rw [hw6]
   exact zsat_set (zsat_set (zsat_set hz hne) hne) hne)
  clear hw6 hVX c28 c29 c30 sQ p3 Hx
  have e1:okRest k0 r=O.goodM r:=by unfold okRest;rw [k3x];rfl
  (have hC:=HCT.out);clear HCT;subst hC
  obtain ⟨gb,hgb⟩:∃ gb,gb=O.goodM r:=⟨_,rfl⟩
  have Hg:=Lib.hid hgb
  have Heo:=Lib.hid e1
  clear hgb e1
  cases gb with
  | false =>
   have e2:(ex==0)=false:=by rw [HE.out,Hg.out];exact eM_is r
   go_wp2_with fail
   (have hR:=HR.out);clear HR;subst hR
   go_ret
   exact ⟨VX,e5,b5,S6.out,by rw [Heo.out,←Hg.out];rfl,fun h=>by rw [Heo.out,←Hg.out] at h;cases h⟩
  | true =>
   have e2:(ex==0)=true:=by rw [HE.out,Hg.out];exact eM_is r
   have HgT:=Hg
   obtain ⟨q,hq⟩:∃ q,q=(!b5&&e5.isEmpty):=⟨_,rfl⟩
   have hwh:=rrwhole_any p g e5 b5 w6 S6.out.head
   rw [←hq] at hwh
   have Hwh:=Lib.hid hwh
   have HQ:=Lib.hid hq
   clear hwh hq
   go_wp2_with fail
   refine Hwh.out.mono ?_
   rintro e w7 ⟨rfl,rfl⟩
   go_wp2_with fail
   (have hR:=HR.out);clear HR;subst hR
   go_ret
   refine ⟨VX,e5,b5,S6.out,by rw [Heo.out,←HgT.out,HI.out.wh,←HQ.out];rfl,fun _=>?_⟩
   have hg:=HgT.out.symm
   have ex2:(O.decM r).1=xm:=by rw [HX.out];exact (xM_good hg).1.symm
   rw [wd_is HI.out HB.out,show withW D r={ D with mp:=(O.decM r).1 } from by unfold withW;rw [show D.kind=3 from by rw [HD.out];exact k3x];rfl,ex2]
   dsimp only
   exact ⟨zo,zc,none,0,by rw [HVX.out,Hda.out];rfl,Hz6.out,by rw [Hda.out];exact sl_nil _⟩
 have t3:((k0:Int)==3)=false:=by rw [beq_eq_false_iff_ne];exact k3x
 ((refine wp_hold fun C HC=>?_);(go_wp2_with fail);(have hC:=HC.out);clear HC;subst hC;(refine wp_cond_false rfl ?_))
 by_cases k4x:(k0:Int)=4
 ·have t4:((k0:Int)==4)=true:=by rw [k4x];rfl
  ((refine wp_hold fun C HC=>?_);(go_wp2_with fail);(have hC:=HC.out);clear HC;subst hC;(refine wp_cond_true rfl ?_))
  have hR3:tookOf e3 b3=(r,e5,b5):=by have h:=HI.out.hR;rw [HI.out.hN1 (by omega),HI.out.hN2 (by omega)] at h;exact h
  have HB:Hid (baseW pp=D):=by rw [HI.out.base,HD.out,if_neg (by omega)];exact Lib.hid rfl
  have hcall:=St.readBytesR S.out (by have:=HI.out.l3;have:=Hpl.out;omega)
  rw [hR3] at hcall
  have Hcall:=Lib.hid hcall
  clear hcall hR3
  go_wp2_with fail
  refine Hcall.out.mono ?_
  clear Hcall
  rintro e w2 ⟨ro,rc,rfl,ho,hS⟩
  dsimp only at ho hS ⊢
  have Hr:=Lib.hid ho.sl
  have S:=Lib.hid hS
  clear ho hS
  have hD:=(O.rdecC_any ro rc r w2 Hr.out.n0 Hr.out.le Hr.out.cm Hr.out.at_ hr).mono (fun e w' h=>O.decC_one h)
  obtain ⟨xc,hxm⟩:∃ x,x=O.xC r:=⟨_,rfl⟩
  obtain ⟨ex,hex⟩:∃ ex,ex=O.eC r:=⟨_,rfl⟩
  rw [←hxm,←hex] at hD
  have Hx:=Lib.hid hD
  have HX:=Lib.hid hxm
  have HE:=Lib.hid hex
  clear hD hxm hex
  go_wp2_with fail
  refine Hx.out.mono ?_
  rintro e w5 ⟨hb5,rfl⟩
  have S:=Lib.hid (S.out.grow hb5)
  clear hb5
  obtain ⟨c0,c1,c2,c3,c4,c5,c6,c7,c8,c9,c10,c11,c12,c13,c14,c15,c16,c17,c18,c19,c20,c21,c22,c23,c24,c25,c26,c27,c28,c29,c30,c31,c32,c33,c34,c35,c36⟩:=wboxD (show w5.heap[Q]?=some (.cells (wdV D (.slice none 0 0) (.slice none 0 0)) 46 (0,0)) from (S.out.pull (A:=[_])).head)
  have sQ:=(S.out.cellsN 1 rfl).1
  obtain ⟨-,-,p3⟩:=S.out.cellsN 1 rfl
  clear c0 c1 c2 c3 c4 c5 c6 c7 c8 c9 c10 c11 c12 c13 c14 c15 c16 c17 c18 c19 c20 c21 c22 c23 c24 c25 c26 c27 c28 c29 c30 c36
  go_wp2_with fail
  refine wp_name fun w6 hw6=>?_
  obtain ⟨VX,hVX⟩:∃ VX,VX=wdV { D with ch:=xc } (.slice none 0 0) (.slice none 0 0):=⟨_,rfl⟩
  have S6:Hid (St W w6 (thRR p g e5 b5::thObj Q (.cells VX 46 (0,0))::L)):=by
   have h:=((((((S.out.pull (A:=[_])).setObj 31 (.int .i64 xc.kind)).setObj 32 (.int .i64 xc.zone)).setObj 33 (.int .i64 xc.epoch)).setObj 34 (.int .i64 xc.tt)).setObj 35 (.string xc.key)).pull (A:=[_])
   rw [←hw6] at h
   have eV:((((((wdV D (.slice none 0 0) (.slice none 0 0)).setIfInBounds 31 (.int .i64 xc.kind)).setIfInBounds 32 (.int .i64 xc.zone)).setIfInBounds 33 (.int .i64 xc.epoch)).setIfInBounds 34 (.int .i64 xc.tt)).setIfInBounds 35 (.string xc.key))=VX:=by
    rw [hVX]
    unfold wdV
    simp only [List.setIfInBounds_toArray,List.set_cons_zero,List.set_cons_succ]
   simp only [List.cons_append,List.nil_append] at h
   rw [eV] at h
   exact Lib.hid h
  have HVX:=Lib.hid hVX
  clear hw6 hVX c31 c32 c33 c34 c35 sQ p3 Hx
  have e1:okRest k0 r=O.goodC r:=by unfold okRest;rw [k4x];rfl
  (have hC:=HCT.out);clear HCT;subst hC
  obtain ⟨gb,hgb⟩:∃ gb,gb=O.goodC r:=⟨_,rfl⟩
  have Hg:=Lib.hid hgb
  have Heo:=Lib.hid e1
  clear hgb e1
  cases gb with
  | false =>
   have e2:(ex==0)=false:=by rw [HE.out,Hg.out];exact eC_is r
   go_wp2_with fail
   (have hR:=HR.out);clear HR;subst hR
   go_ret
   exact ⟨VX,e5,b5,S6.out,by rw [Heo.out,←Hg.out];rfl,fun h=>by rw [Heo.out,←Hg.out] at h;cases h⟩
  | true =>
   have e2:(ex==0)=true:=by rw [HE.out,Hg.out];exact eC_is r
   have HgT:=Hg
   obtain ⟨q,hq⟩:∃ q,q=(!b5&&e5.isEmpty):=⟨_,rfl⟩
   have hwh:=rrwhole_any p g e5 b5 w6 S6.out.head
   rw [←hq] at hwh
   have Hwh:=Lib.hid hwh
   have HQ:=Lib.hid hq
   clear hwh hq
   go_wp2_with fail
   refine Hwh.out.mono ?_
   rintro e w7 ⟨rfl,rfl⟩
   go_wp2_with fail
   (have hR:=HR.out);clear HR;subst hR
   go_ret
   refine ⟨VX,e5,b5,S6.out,by rw [Heo.out,←HgT.out,HI.out.wh,←HQ.out];rfl,fun _=>?_⟩
   have hg:=HgT.out.symm
   have ex2:(O.decC r).1=xc:=by rw [HX.out];exact (xC_good hg).symm
   rw [wd_is HI.out HB.out,show withW D r={ D with ch:=(O.decC r).1 } from by unfold withW;rw [show D.kind=4 from by rw [HD.out];exact k4x];rfl,ex2]
   dsimp only
   exact ⟨none,0,none,0,by rw [HVX.out,Hmp.out,Hda.out];rfl,by rw [Hmp.out];exact zs_nilR _,by rw [Hda.out];exact sl_nil _⟩
 have t4:((k0:Int)==4)=false:=by rw [beq_eq_false_iff_ne];exact k4x
 ((refine wp_hold fun C HC=>?_);(go_wp2_with fail);(have hC:=HC.out);clear HC;subst hC;(refine wp_cond_false rfl ?_))
 by_cases k5x:(k0:Int)=5
 ·have t5:((k0:Int)==5)=true:=by rw [k5x];rfl
  ((refine wp_hold fun C HC=>?_);(go_wp2_with fail);(have hC:=HC.out);clear HC;subst hC;(refine wp_cond_true rfl ?_))
  have hR3:tookOf e3 b3=(r,e5,b5):=by have h:=HI.out.hR;rw [HI.out.hN1 (by omega),HI.out.hN2 (by omega)] at h;exact h
  have HB:Hid (baseW pp=D):=by rw [HI.out.base,HD.out,if_neg (by omega)];exact Lib.hid rfl
  have hcall:=St.readBytesR S.out (by have:=HI.out.l3;have:=Hpl.out;omega)
  rw [hR3] at hcall
  have Hcall:=Lib.hid hcall
  clear hcall hR3
  go_wp2_with fail
  refine Hcall.out.mono ?_
  clear Hcall
  rintro e w2 ⟨ro,rc,rfl,ho,hS⟩
  dsimp only at ho hS ⊢
  have Hr:=Lib.hid ho.sl
  have S:=Lib.hid hS
  clear ho hS
  have hD:=(rdec_any ro rc r w2 Hr.out.le Hr.out.cm Hr.out.n0 Hr.out.at_ hr).mono (fun e w' h=>decO_one h)
  obtain ⟨xo,hxm⟩:∃ x,x=xO r:=⟨_,rfl⟩
  obtain ⟨ex,hex⟩:∃ ex,ex=eO r:=⟨_,rfl⟩
  rw [←hxm,←hex] at hD
  have Hx:=Lib.hid hD
  have HX:=Lib.hid hxm
  have HE:=Lib.hid hex
  clear hD hxm hex
  go_wp2_with fail
  refine Hx.out.mono ?_
  rintro e w5 ⟨hb5,rfl⟩
  have S:=Lib.hid (S.out.grow hb5)
  clear hb5
  obtain ⟨c0,c1,c2,c3,c4,c5,c6,c7,c8,c9,c10,c11,c12,c13,c14,c15,c16,c17,c18,c19,c20,c21,c22,c23,c24,c25,c26,c27,c28,c29,c30,c31,c32,c33,c34,c35,c36⟩:=wboxD (show w5.heap[Q]?=some (.cells (wdV D (.slice none 0 0) (.slice none 0 0)) 46 (0,0)) from (S.out.pull (A:=[_])).head)
  have sQ:=(S.out.cellsN 1 rfl).1
  obtain ⟨-,-,p3⟩:=S.out.cellsN 1 rfl
  clear c0 c1 c2 c3 c4 c5 c6 c7 c8 c9 c22 c23 c24 c25 c26 c27 c28 c29 c30 c31 c32 c33 c34 c35 c36
  go_wp2_with fail
  refine wp_name fun w6 hw6=>?_
  obtain ⟨VX,hVX⟩:∃ VX,VX=wdV { D with op:=xo } (.slice none 0 0) (.slice none 0 0):=⟨_,rfl⟩
  have S6:Hid (St W w6 (thRR p g e5 b5::thObj Q (.cells VX 46 (0,0))::L)):=by
   have h:=(((((((((((((S.out.pull (A:=[_])).setObj 10 (.int .i64 xo.kind)).setObj 11 (.int .i64 xo.client)).setObj 12 (.int .i64 xo.seq)).setObj 13 (.string xo.key)).setObj 14 (.string xo.who)).setObj 15 (.string xo.tkey)).setObj 16 (.string xo.twho)).setObj 17 (.int .i64 xo.item)).setObj 18 (.int .i64 xo.count)).setObj 19 (.int .i64 xo.price)).setObj 20 (.bool xo.buy)).setObj 21 (.int .i64 xo.id)).pull (A:=[_])
   rw [←hw6] at h
   have eV:(((((((((((((wdV D (.slice none 0 0) (.slice none 0 0)).setIfInBounds 10 (.int .i64 xo.kind)).setIfInBounds 11 (.int .i64 xo.client)).setIfInBounds 12 (.int .i64 xo.seq)).setIfInBounds 13 (.string xo.key)).setIfInBounds 14 (.string xo.who)).setIfInBounds 15 (.string xo.tkey)).setIfInBounds 16 (.string xo.twho)).setIfInBounds 17 (.int .i64 xo.item)).setIfInBounds 18 (.int .i64 xo.count)).setIfInBounds 19 (.int .i64 xo.price)).setIfInBounds 20 (.bool xo.buy)).setIfInBounds 21 (.int .i64 xo.id))=VX:=by
    rw [hVX]
    unfold wdV
    simp only [List.setIfInBounds_toArray,List.set_cons_zero,List.set_cons_succ]
   simp only [List.cons_append,List.nil_append] at h
   rw [eV] at h
   exact Lib.hid h
  have HVX:=Lib.hid hVX
  clear hw6 hVX c10 c11 c12 c13 c14 c15 c16 c17 c18 c19 c20 c21 sQ p3 Hx
  have e1:okRest k0 r=goodD r:=by unfold okRest;rw [k5x];rfl
  (have hC:=HCT.out);clear HCT;subst hC
  obtain ⟨gb,hgb⟩:∃ gb,gb=goodD r:=⟨_,rfl⟩
  have Hg:=Lib.hid hgb
  have Heo:=Lib.hid e1
  clear hgb e1
  cases gb with
  | false =>
   have e2:(ex==0)=false:=by rw [HE.out,Hg.out];exact eO_is r
   go_wp2_with fail
   (have hR:=HR.out);clear HR;subst hR
   go_ret
   exact ⟨VX,e5,b5,S6.out,by rw [Heo.out,←Hg.out];rfl,fun h=>by rw [Heo.out,←Hg.out] at h;cases h⟩
  | true =>
   have e2:(ex==0)=true:=by rw [HE.out,Hg.out];exact eO_is r
   have HgT:=Hg
   obtain ⟨q,hq⟩:∃ q,q=(!b5&&e5.isEmpty):=⟨_,rfl⟩
   have hwh:=rrwhole_any p g e5 b5 w6 S6.out.head
   rw [←hq] at hwh
   have Hwh:=Lib.hid hwh
   have HQ:=Lib.hid hq
   clear hwh hq
   go_wp2_with fail
   refine Hwh.out.mono ?_
   rintro e w7 ⟨rfl,rfl⟩
   go_wp2_with fail
   (have hR:=HR.out);clear HR;subst hR
   go_ret
   refine ⟨VX,e5,b5,S6.out,by rw [Heo.out,←HgT.out,HI.out.wh,←HQ.out];rfl,fun _=>?_⟩
   have hg:=HgT.out.symm
   have ex2:dqQ (decD r)=xo:=by rw [HX.out];unfold xO;rw [if_pos hg]
   rw [wd_is HI.out HB.out,show withW D r={ D with op:=dqQ (decD r) } from by unfold withW;rw [show D.kind=5 from by rw [HD.out];exact k5x];rfl,ex2]
   dsimp only
   exact ⟨none,0,none,0,by rw [HVX.out,Hmp.out,Hda.out];rfl,by rw [Hmp.out];exact zs_nilR _,by rw [Hda.out];exact sl_nil _⟩
 have t5:((k0:Int)==5)=false:=by rw [beq_eq_false_iff_ne];exact k5x
 ((refine wp_hold fun C HC=>?_);(go_wp2_with fail);(have hC:=HC.out);clear HC;subst hC;(refine wp_cond_false rfl ?_))
 by_cases k6x:(k0:Int)=6
 ·have t6:((k0:Int)==6)=true:=by rw [k6x];rfl
  ((refine wp_hold fun C HC=>?_);(go_wp2_with fail);(have hC:=HC.out);clear HC;subst hC;(refine wp_cond_true rfl ?_))
  obtain ⟨x1,y1,x2,y2,q1,q2,q3,h1,h2⟩:=three_nums e3 b3
  rw [←HI.out.n0] at q1
  rw [←HI.out.n1] at q2
  rw [←HI.out.n2,←HI.out.hS1 (by omega),←HI.out.hS2 (by omega)] at q3
  have Hq1:=Lib.hid q1
  have Hq2:=Lib.hid q2
  have Hq3:=Lib.hid q3
  have Hx1:=Lib.hid h1
  have Hx2:=Lib.hid h2
  clear q1 q2 q3 h1 h2
  refine wp_hold fun C HC=>?_
  go_wp2_with fail
  have hcall:=St.readNumR S.out (by have:=HI.out.l3;have:=Hpl.out;have:=Hx1.out;have:=Hx2.out;omega)
  rw [Hq1.out] at hcall
  refine hcall.mono ?_
  clear hcall
  rintro e wn1 ⟨rfl,hS⟩
  have S:=Lib.hid hS
  dsimp only at S ⊢
  clear hS
  go_wp2_with fail
  have hcall:=St.readNumR S.out (by have:=HI.out.l3;have:=Hpl.out;have:=Hx1.out;have:=Hx2.out;omega)
  rw [Hq2.out] at hcall
  refine hcall.mono ?_
  clear hcall
  rintro e wn2 ⟨rfl,hS⟩
  have S:=Lib.hid hS
  dsimp only at S ⊢
  clear hS
  go_wp2_with fail
  have hcall:=St.readNumR S.out (by have:=HI.out.l3;have:=Hpl.out;have:=Hx1.out;have:=Hx2.out;omega)
  rw [Hq3.out] at hcall
  refine hcall.mono ?_
  clear hcall
  rintro e wn3 ⟨rfl,hS⟩
  have S:=Lib.hid hS
  dsimp only at S ⊢
  clear hS
  obtain ⟨c0,c1,c2,c3,c4,c5,c6,c7,c8,c9,c10,c11,c12,c13,c14,c15,c16,c17,c18,c19,c20,c21,c22,c23,c24,c25,c26,c27,c28,c29,c30,c31,c32,c33,c34,c35,c36⟩:=wboxD (show wn3.heap[Q]?=some (.cells (wdV D (.slice none 0 0) (.slice none 0 0)) 46 (0,0)) from (S.out.pull (A:=[_])).head)
  have sQ:=(S.out.cellsN 1 rfl).1
  obtain ⟨-,-,p3⟩:=S.out.cellsN 1 rfl
  clear c0 c1 c2 c3 c4 c5 c6 c7 c8 c9 c13 c14 c15 c16 c17 c18 c19 c20 c21 c22 c23 c24 c25 c26 c27 c28 c29 c30 c31 c32 c33 c34 c35 c36
  go_wp2_with fail
  refine wp_name fun wb hwb=>?_
  obtain ⟨D6,hD6⟩:∃ D6:Wd,D6={ D with op:={ rq0 with kind:=m0,client:=m1,seq:=m2 } }:=⟨_,rfl⟩
  have S:Hid (St W wb (thRR p g e4 b4::thObj Q (.cells (wdV D6 (.slice none 0 0) (.slice none 0 0)) 46 (0,0))::L)):=by
   have h:=(((S.out.pull (A:=[_])).setObj 10 (.int .i64 m0)).setObj 11 (.int .i64 m1)).setObj 12 (.int .i64 m2)
   have hv:(((wdV D (.slice none 0 0) (.slice none 0 0)).setIfInBounds 10 (.int .i64 m0)).setIfInBounds 11 (.int .i64 m1)).setIfInBounds 12 (.int .i64 m2)=wdV D6 (.slice none 0 0) (.slice none 0 0):=by rw [hD6,HD.out];rfl
   rw [hv,←hwb] at h
   exact h.pull (A:=[_])
  have HB:Hid (baseW pp=D6):=by rw [HI.out.base,hD6,HD.out,if_pos k6x];exact Lib.hid rfl
  have Hmp:Hid (D6.mp=mp0):=by rw [hD6];exact Hmp
  have Hda:Hid (D6.data=[]):=by rw [hD6];exact Hda
  have Hk6:Hid (D6.kind=6):=by rw [hD6,HD.out];exact k6x
  clear hwb hD6 c10 c11 c12 sQ p3 HD Hq1 Hq2 Hq3 Hx1 Hx2
  ((have hC:=HC.out);clear HC;subst hC)
  have hcall:=St.readBytesR S.out (by have:=HI.out.l4;have:=Hpl.out;omega)
  rw [HI.out.hR] at hcall
  have Hcall:=Lib.hid hcall
  clear hcall
  go_wp2_with fail
  refine Hcall.out.mono ?_
  clear Hcall
  rintro e w2 ⟨ro,rc,rfl,ho,hS⟩
  dsimp only at ho hS ⊢
  have Hr:=Lib.hid ho.sl
  have S:=Lib.hid hS
  clear ho hS
  have hD:=rdecrep_any ro rc r w2 Hr.out.le Hr.out.cm Hr.out.n0 Hr.out.at_ hr
  unfold RepDec at hD
  obtain ⟨xr,hxm⟩:∃ x,x=repR r:=⟨_,rfl⟩
  obtain ⟨ex,hex⟩:∃ ex,ex=repE r:=⟨_,rfl⟩
  rw [←hxm,←hex] at hD
  have Hx:=Lib.hid hD
  have HX:=Lib.hid hxm
  have HE:=Lib.hid hex
  clear hD hxm hex
  go_wp2_with fail
  refine Hx.out.mono ?_
  rintro e w5 ⟨rfl,hb5⟩
  have S:=Lib.hid (S.out.grow hb5)
  clear hb5
  obtain ⟨c0,c1,c2,c3,c4,c5,c6,c7,c8,c9,c10,c11,c12,c13,c14,c15,c16,c17,c18,c19,c20,c21,c22,c23,c24,c25,c26,c27,c28,c29,c30,c31,c32,c33,c34,c35,c36⟩:=wboxD (show w5.heap[Q]?=some (.cells (wdV D6 (.slice none 0 0) (.slice none 0 0)) 46 (0,0)) from (S.out.pull (A:=[_])).head)
  have sQ:=(S.out.cellsN 1 rfl).1
  obtain ⟨-,-,p3⟩:=S.out.cellsN 1 rfl
  clear c0 c1 c2 c3 c4 c5 c6 c7 c8 c9 c10 c11 c12 c13 c14 c15 c16 c17 c18 c19 c20 c21 c28 c29 c30 c31 c32 c33 c34 c35 c36
  go_wp2_with fail
  refine wp_name fun w6 hw6=>?_
  obtain ⟨VX,hVX⟩:∃ VX,VX=wdV { D6 with rep:=xr } (.slice none 0 0) (.slice none 0 0):=⟨_,rfl⟩
  have S6:Hid (St W w6 (thRR p g e5 b5::thObj Q (.cells VX 46 (0,0))::L)):=by
   have h:=(((((((S.out.pull (A:=[_])).setObj 22 (.int .i64 xr.err)).setObj 23 (.int .i64 xr.id)).setObj 24 (.int .i64 xr.i.a)).setObj 25 (.int .i64 xr.i.b)).setObj 26 (.int .i64 xr.i.c)).setObj 27 (.int .i64 xr.i.d)).pull (A:=[_])
   rw [←hw6] at h
   have eV:(((((((wdV D6 (.slice none 0 0) (.slice none 0 0)).setIfInBounds 22 (.int .i64 xr.err)).setIfInBounds 23 (.int .i64 xr.id)).setIfInBounds 24 (.int .i64 xr.i.a)).setIfInBounds 25 (.int .i64 xr.i.b)).setIfInBounds 26 (.int .i64 xr.i.c)).setIfInBounds 27 (.int .i64 xr.i.d))=VX:=by
    rw [hVX]
    unfold wdV
    simp only [List.setIfInBounds_toArray,List.set_cons_zero,List.set_cons_succ]
   simp only [List.cons_append,List.nil_append] at h
   rw [eV] at h
   exact Lib.hid h
  have HVX:=Lib.hid hVX
  clear hw6 hVX c22 c23 c24 c25 c26 c27 sQ p3 Hx
  have e1:okRest k0 r=goodP r:=by unfold okRest;rw [k6x];rfl
  (have hC:=HCT.out);clear HCT;subst hC
  obtain ⟨gb,hgb⟩:∃ gb,gb=goodP r:=⟨_,rfl⟩
  have Hg:=Lib.hid hgb
  have Heo:=Lib.hid e1
  clear hgb e1
  cases gb with
  | false =>
   have e2:(ex==0)=false:=by rw [HE.out,Hg.out];exact repE_is r
   go_wp2_with fail
   (have hR:=HR.out);clear HR;subst hR
   go_ret
   exact ⟨VX,e5,b5,S6.out,by rw [Heo.out,←Hg.out];rfl,fun h=>by rw [Heo.out,←Hg.out] at h;cases h⟩
  | true =>
   have e2:(ex==0)=true:=by rw [HE.out,Hg.out];exact repE_is r
   have HgT:=Hg
   obtain ⟨q,hq⟩:∃ q,q=(!b5&&e5.isEmpty):=⟨_,rfl⟩
   have hwh:=rrwhole_any p g e5 b5 w6 S6.out.head
   rw [←hq] at hwh
   have Hwh:=Lib.hid hwh
   have HQ:=Lib.hid hq
   clear hwh hq
   go_wp2_with fail
   refine Hwh.out.mono ?_
   rintro e w7 ⟨rfl,rfl⟩
   go_wp2_with fail
   (have hR:=HR.out);clear HR;subst hR
   go_ret
   refine ⟨VX,e5,b5,S6.out,by rw [Heo.out,←HgT.out,HI.out.wh,←HQ.out];rfl,fun _=>?_⟩
   have hg:=HgT.out.symm
   have ex2:rpOf r=xr:=by rw [HX.out];exact (repR_yes hg).1.symm
   rw [wd_is HI.out HB.out,show withW D6 r={ D6 with rep:=rpOf r } from by unfold withW;rw [show D6.kind=6 from Hk6.out];rfl,ex2]
   dsimp only
   exact ⟨none,0,none,0,by rw [HVX.out,Hmp.out,Hda.out];rfl,by rw [Hmp.out];exact zs_nilR _,by rw [Hda.out];exact sl_nil _⟩
 have t6:((k0:Int)==6)=false:=by rw [beq_eq_false_iff_ne];exact k6x
 ((refine wp_hold fun C HC=>?_);(go_wp2_with fail);(have hC:=HC.out);clear HC;subst hC;(refine wp_cond_false rfl ?_))
 have hR3:tookOf e3 b3=(r,e5,b5):=by have h:=HI.out.hR;rw [HI.out.hN1 (by omega),HI.out.hN2 (by omega)] at h;exact h
 have HB:Hid (baseW pp=D):=by rw [HI.out.base,HD.out,if_neg k6x];exact Lib.hid rfl
 have hcall:=St.readBytesR S.out (by have:=HI.out.l3;have:=Hpl.out;omega)
 rw [hR3] at hcall
 have Hcall:=Lib.hid hcall
 clear hcall hR3
 go_wp2_with fail
 refine Hcall.out.mono ?_
 clear Hcall
 rintro e w2 ⟨ro,rc,rfl,ho,hS⟩
 dsimp only at ho hS ⊢
 have Hqr:=Lib.hid (own_ne ho (S.out.cellsN 1 rfl).1)
 have Hr:=Lib.hid ho.sl
 have S:=Lib.hid hS
 clear ho hS
 obtain ⟨c0,c1,c2,c3,c4,c5,c6,c7,c8,c9,c10,c11,c12,c13,c14,c15,c16,c17,c18,c19,c20,c21,c22,c23,c24,c25,c26,c27,c28,c29,c30,c31,c32,c33,c34,c35,c36⟩:=wboxD (show w2.heap[Q]?=some (.cells (wdV D (.slice none 0 0) (.slice none 0 0)) 46 (0,0)) from (S.out.pull (A:=[_])).head)
 have sQ:=(S.out.cellsN 1 rfl).1
 obtain ⟨-,-,p3⟩:=S.out.cellsN 1 rfl
 clear c0 c1 c2 c3 c4 c5 c6 c7 c8 c9 c10 c11 c12 c13 c14 c15 c16 c17 c18 c19 c20 c21 c22 c23 c24 c25 c26 c27 c28 c29 c30 c31 c32 c33 c34 c35
 obtain ⟨n,hn⟩:∃ n,n=r.length:=⟨_,rfl⟩
 rw [←hn]
 have Hn:=Lib.hid hn
 clear hn
 go_wp2_with fail
 refine wp_name fun w6 hw6=>?_
 have S6:=Lib.hid (((S.out.pull (A:=[_])).setObj 36 (.slice ro n rc)).pull (A:=[_]))
 have Hr6:Hid (F.Sl w6 ro rc r):=Lib.hid (by rw [hw6];exact slof_set Hr.out Hqr.out)
 rw [←hw6] at S6
 clear hw6 c36 sQ p3
 (have hC:=HCT.out);clear HCT;subst hC
 obtain ⟨q,hq⟩:∃ q,q=(!b5&&e5.isEmpty):=⟨_,rfl⟩
 have hwh:=rrwhole_any p g e5 b5 w6 S6.out.head
 rw [←hq] at hwh
 have Hwh:=Lib.hid hwh
 have HQ:=Lib.hid hq
 clear hwh hq
 go_wp2_with fail
 refine Hwh.out.mono ?_
 rintro e w7 ⟨rfl,rfl⟩
 go_wp2_with fail
 (have hR:=HR.out);clear HR;subst hR
 go_ret
 have eo:okRest k0 r=true:=by unfold okRest;rw [if_neg k3x,if_neg k4x,if_neg k5x,if_neg k6x]
 have hkd:D.kind=k0:=by rw [HD.out]
 have ew:withW D r={ D with data:=r }:=by unfold withW;rw [hkd,if_neg k3x,if_neg k4x,if_neg k5x,if_neg k6x]
 refine ⟨_,e5,b5,S6.out,by rw [eo,HI.out.wh,←HQ.out];rfl,fun _=>?_⟩
 rw [wd_is HI.out HB.out,ew]
 dsimp only
 refine ⟨none,0,ro,rc,?_,by rw [Hmp.out];exact zs_nilR _,Hr6.out⟩
 have hz0:D.mp.zs.length=0:=by rw [Hmp.out];rfl
 rw [hz0,Hn.out]
 unfold wdV
 simp only [List.setIfInBounds_toArray,List.set_cons_zero,List.set_cons_succ]
end Go.Proofs.YthlcmjgdilebeaaGreat