/- Texts put together: WRe. -/
import Derived.Test.YtogamdaomdoapaaGreatGa09
import Derived.Test.YtogamdaomdoapaaGreatGa15
import Derived.Test.YtogamdaomdoapaaGreatGa18
import Derived.Test.YtogamdaomdoapaaGreatGa26
import Derived.Test.YtogamdaomdoapaaGreatGa27
import Derived.Test.YtogamdaomdoapaaGreatGa28
namespace Go.Proofs.YtogamdaomdoapaaGreat
open Go.Value renaming int→aI,string→aS,bool→aB
open Go.IntKind renaming i64→aK
open List renaming setIfInBounds_toArray→lA,set_cons_zero→lZ,set_cons_succ→lS
open Go.Lib renaming hid→uH
set_option maxRecDepth 20000
open Go.RowKit
theorem d0c (w:World):O.ZsAt w none []:=fun h=>absurd h (by simp)
theorem v0n {w:World} {Q o g x:Nat} {v:Value} (h:g≠Q):(w.setCell ⟨Q,o,none⟩ v).cell? ⟨g,x,none⟩=w.cell? ⟨g,x,none⟩ :=
 World.cell?_setCell_other w ⟨Q,o,none⟩ ⟨g,x,none⟩ v (fun e=>h (by simpa using (congrArg Addr.block e).symm))
theorem s0a {w:World} {Q o:Nat} {v:Value}:(w.setCell ⟨Q,o,none⟩ v).heap.size=w.heap.size:=by simp [World.setCell]
theorem g0u {w:World} {Q o:Nat} {v:Value} {zo:Option Addr} {l:List Zn} (h:O.ZsAt w zo l) (hg:0<l.length→∀ a,zo=some a→a.block≠Q):O.ZsAt (w.setCell ⟨Q,o,none⟩ v) zo l:=fun hp=>by
 obtain ⟨g,x,e,hz⟩:=h hp
 have hne:g≠Q:=hg hp _ e
 exact ⟨g,x,e,by rw [s0a];exact hz.lt,fun i hi j v hv=>by rw [v0n hne];exact hz.cell i hi j v hv⟩
theorem r0x {w:World} {Q o:Nat} {v:Value} {ao:Option Addr} {c:Nat} {l:List UInt8} (h:F.Sl w ao c l) (hg:0<l.length→∀ a,ao=some a→a.block≠Q):F.Sl (w.setCell ⟨Q,o,none⟩ v) ao c l :=
 ⟨h.le,h.cm,h.n0,fun hp=>by
  obtain ⟨b,x,e,hb,hr⟩:=h.at_ hp
  have hne:b≠Q:=hg hp _ e
  exact ⟨b,x,e,by rw [s0a];exact hb,fun i hi=>by rw [v0n hne];exact hr i hi⟩⟩
def kindV:Value→Nat
 | .int _ _=>0
 | aS _=>1
 | _=>2
def i0l:List Nat:=[0,0,0,0,0,0,0,0,1,1,0,0,0,1,1,1,1,0,0,0,2,0,0,0,0,0,0,0,0,0,2,0,0,0,0,1,2]
theorem x0n:∀ o,o<37→¬(i0l[o+1]?=some 1∧i0l[o+2]?=some 1∧i0l[o+3]?=some 0∧i0l[o+4]?=some 0∧i0l[o+5]?=some 0∧i0l[o+6]?=some 0):=by decide
theorem j0z {w:World} {Q:Nat} {d:Wd} {a1 a2:Option Addr} {n1 k1 n2 k2:Nat} {t:TypeId} {fr:Nat × Nat} (hq:w.heap[Q]?=some (.cells (wdV d (.slice a1 n1 k1) (.slice a2 n2 k2)) t fr)) {zo:Option Addr} {l:List Zn} (h:O.ZsAt w zo l):0<l.length→∀ a,zo=some a→a.block≠Q:=by
 intro hp a ha he
 obtain ⟨g,o,e,hz⟩:=h hp
 rw [ha] at e
 obtain rfl:=Option.some.inj e
 simp only at he
 subst he
 have hk:((wdV d (.slice a1 n1 k1) (.slice a2 n2 k2)).toList.map kindV)=i0l:=rfl
 have hc:∀ j v,(znV l[0])[j]?=some v→i0l[o+j]?=some (kindV v):=fun j v hv=>by
  have h1:=hz.cell 0 hp j v hv
  rw [cell_of_row w g _ _ _ _ hq] at h1
  rw [←hk,List.getElem?_map,Array.getElem?_toList]
  have e0:o+0 * 9+j=o+j:=by omega
  rw [e0] at h1
  rw [h1]
  rfl
 have g1:=hc 1 _ rfl
 have g2:=hc 2 _ rfl
 have g3:=hc 3 _ rfl
 have g4:=hc 4 _ rfl
 have g5:=hc 5 _ rfl
 have g6:=hc 6 _ rfl
 have ho:o<37:=by
  have:=(List.getElem?_eq_some_iff.1 g1).1
  have hl:i0l.length=37:=rfl
  omega
 exact x0n o ho ⟨g1,g2,g3,g4,g5,g6⟩
def z0e (W:World) (L:List Th) (Q:Nat) (d:Wd) (r:List UInt8) (e:Ending) (w':World):Prop :=
 ∃ VQ,St W w' (a0c Q (.cells VQ 85 (0,0))::L)∧e=.returned (aB (b0p d.kind r))∧(b0p d.kind r=true→∃ mo zc dl dc,VQ=wdV (c0j d r) (.slice mo (c0j d r).mp.zs.length zc) (.slice dl (c0j d r).data.length dc)∧O.ZsAt w' mo (c0j d r).mp.zs∧F.Sl w' dl dc (c0j d r).data)
theorem u0y {l:List UInt8} (h:O.e0f l=true):O.xM l=(O.decM l).1∧O.eM l=0:=by unfold O.xM O.eM;rw [if_pos h,if_pos h];exact ⟨rfl,rfl⟩
theorem v0a {l:List UInt8} (h:O.f0w l=true):O.xC l=(O.decC l).1:=by unfold O.xC;rw [if_pos h]
theorem eM_is (l:List UInt8):(O.eM l==0)=O.e0f l:=by unfold O.eM;cases O.e0f l<;>rfl
theorem eC_is (l:List UInt8):(O.eC l==0)=O.f0w l:=by unfold O.eC;cases O.f0w l<;>rfl
def xO (l:List UInt8):Rq:=if goodD l=true then dqQ (decD l) else rq0
def eO (l:List UInt8):Int:=if goodD l=true then 0 else 3
theorem eO_is (l:List UInt8):(eO l==0)=goodD l:=by unfold eO;cases goodD l<;>rfl
theorem q0b (l:List UInt8):(repE l==0)=e0m l:=by unfold repE;cases e0m l<;>rfl
theorem rqIf {e:Ending} (g:Bool) (x:Rq) (h:if g=true then e=.returned (.tuple #[.agg #[aI aK x.kind,aI aK x.client,aI aK x.seq,aS x.key,aS x.who,aS x.tkey,aS x.twho,aI aK x.item,aI aK x.count,aI aK x.price,aB x.buy,aI aK x.id],aI aK 0]) else e=.returned (.tuple #[.agg #[aI aK 0,aI aK 0,aI aK 0,aS ⟨#[]⟩,aS ⟨#[]⟩,aS ⟨#[]⟩,aS ⟨#[]⟩,aI aK 0,aI aK 0,aI aK 0,aB false,aI aK 0],aI aK 3])) :
 e=.returned (.tuple #[.agg #[aI aK (if g=true then x else rq0).kind,aI aK (if g=true then x else rq0).client,aI aK (if g=true then x else rq0).seq,aS (if g=true then x else rq0).key,aS (if g=true then x else rq0).who,aS (if g=true then x else rq0).tkey,aS (if g=true then x else rq0).twho,aI aK (if g=true then x else rq0).item,aI aK (if g=true then x else rq0).count,aI aK (if g=true then x else rq0).price,aB (if g=true then x else rq0).buy,aI aK (if g=true then x else rq0).id],aI aK (if g=true then 0 else 3)]):=by
 cases g with
 | true=>exact h
 | false=>exact h
theorem decO_gen {e:Ending} (g:Bool) (x X:Rq) (E:Int) (hX:X=if g=true then x else rq0) (hE:E=if g=true then 0 else 3) (h:if g=true then e=.returned (.tuple #[.agg #[aI aK x.kind,aI aK x.client,aI aK x.seq,aS x.key,aS x.who,aS x.tkey,aS x.twho,aI aK x.item,aI aK x.count,aI aK x.price,aB x.buy,aI aK x.id],aI aK 0]) else e=.returned (.tuple #[.agg #[aI aK 0,aI aK 0,aI aK 0,aS ⟨#[]⟩,aS ⟨#[]⟩,aS ⟨#[]⟩,aS ⟨#[]⟩,aI aK 0,aI aK 0,aI aK 0,aB false,aI aK 0],aI aK 3])):e=.returned (.tuple #[.agg #[aI aK X.kind,aI aK X.client,aI aK X.seq,aS X.key,aS X.who,aS X.tkey,aS X.twho,aI aK X.item,aI aK X.count,aI aK X.price,aB X.buy,aI aK X.id],aI aK E]):=by
 subst hX hE
 exact rqIf g x h
theorem t0b {w:World} {l:List UInt8} {e:Ending} {w':World} (h:j0m w l e w'):Below w.heap.size w w'∧e=.returned (.tuple #[.agg #[aI aK (xO l).kind,aI aK (xO l).client,aI aK (xO l).seq,aS (xO l).key,aS (xO l).who,aS (xO l).tkey,aS (xO l).twho,aI aK (xO l).item,aI aK (xO l).count,aI aK (xO l).price,aB (xO l).buy,aI aK (xO l).id],aI aK (eO l)]):=by
 exact And.imp id (decO_gen (goodD l) (dqQ (decD l)) (xO l) (eO l) (by rw [xO]) (by rw [eO])) h
set_option maxHeartbeats 4000000 in
theorem w0j {W w:World} {L:List Th} {Q:Nat} {V:Array Value} {d:Wd} (S0:St W w (a0c Q (.cells V 85 (0,0))::L)) (hV:V=wdV d (.slice none 0 0) (.slice none 0 0)) (hmp:d.mp=mp0) (hda:d.data=[]) (ro:Option Addr) (rc:Nat) (r:List UInt8) (hr:F.Sl w ro rc r) (hQr:0<r.length→∀ a,ro=some a→a.block≠Q) (hm:r.length≤18000∧(d.kind=3∨r.length≤2000)) :
 Calls Tryz.prog 52 #[.pointer (some ⟨Q,0,none⟩),.slice ro r.length rc] w (z0e W L Q d r):=by
 have HV:=uH hV
 have hs:V.size=37:=by rw [hV];rfl
 have S:=uH S0
 have Hr:=uH hr
 have Hm:=uH hm
 clear hV S0 hr hm
 go_enter Tryz.func52,Tryz.ntmps52
 refine d0m fun R HR=>?_
 refine a0a fun C HC=>?_
 go_wp2_with fail
 (have hC:=HC.out);clear HC;subst hC
 refine a0a fun C HC=>?_
 go_wp2_with fail
 (have hC:=HC.out);clear HC;subst hC
 refine a0a fun CT HCT=>?_
 refine wp_seq ?_
 refine a0a fun C HC=>?_
 obtain ⟨c0,c1,c2,c3,c4,c5,c6,c7,c8,c9,c10,c11,c12,c13,c14,c15,c16,c17,c18,c19,c20,c21,c22,c23,c24,c25,c26,c27,c28,c29,c30,c31,c32,c33,c34,c35,c36⟩:=wbox (show w.heap[Q]?=some (.cells (wdV d (.slice none 0 0) (.slice none 0 0)) 85 (0,0)) from (by rw [←HV.out];exact S.out.head))
 clear c1 c2 c3 c4 c5 c6 c7 c8 c9 c10 c11 c12 c13 c14 c15 c16 c17 c18 c19 c20 c21 c22 c23 c24 c25 c26 c27 c28 c29 c30 c31 c32 c33 c34 c35 c36
 go_wp2_with fail
 (have hC:=HC.out);clear HC;subst hC
 clear c0
 refine wp_block ?_
 by_cases k3:d.kind=3
 ·have t3:(d.kind==3)=true:=by rw [k3];rfl
  ((refine a0a fun C HC=>?_);(go_wp2_with fail);(have hC:=HC.out);clear HC;subst hC;(refine wp_cond_true rfl ?_))
  have hD:=(O.o0v ro rc r w Hr.out.n0 Hr.out.at_ (by have h1:=Hm.out.1;have h2:=Hm.out.2;omega)).mono (fun e w' h=>O.n0v h)
  obtain ⟨xm,hxm⟩:∃ x,x=O.xM r:=⟨_,rfl⟩
  obtain ⟨ex,hex⟩:∃ ex,ex=O.eM r:=⟨_,rfl⟩
  rw [←hxm,←hex] at hD
  have HD:=uH hD
  have HX:=uH hxm
  have HE:=uH hex
  clear hD hxm hex
  go_wp2_with fail
  refine HD.out.mono ?_
  rintro e w5 ⟨hb5,zo,zc,rfl,hz⟩
  have S:=uH (S.out.grow hb5)
  clear hb5
  obtain ⟨c0,c1,c2,c3,c4,c5,c6,c7,c8,c9,c10,c11,c12,c13,c14,c15,c16,c17,c18,c19,c20,c21,c22,c23,c24,c25,c26,c27,c28,c29,c30,c31,c32,c33,c34,c35,c36⟩:=wbox (show w5.heap[Q]?=some (.cells (wdV d (.slice none 0 0) (.slice none 0 0)) 85 (0,0)) from (by rw [←HV.out];exact S.out.head))
  have sQ:=(S.out.a0b 0 rfl).1
  obtain ⟨-,-,p3⟩:=S.out.a0b 0 rfl
  clear c0 c1 c2 c3 c4 c5 c6 c7 c8 c9 c10 c11 c12 c13 c14 c15 c16 c17 c18 c19 c20 c21 c22 c23 c24 c25 c26 c27 c31 c32 c33 c34 c35 c36
  go_wp2_with fail
  refine a0d fun w6 hw6=>?_
  obtain ⟨VX,hVX⟩:∃ VX,VX=wdV { d with mp:=xm } (.slice zo xm.zs.length zc) (.slice none 0 0):=⟨_,rfl⟩
  have S6:Hid (St W w6 (a0c Q (.cells VX 85 (0,0))::L)):=by
   have h:=(((S.out.setObj 28 (aI aK xm.ver)).setObj 29 (aI aK xm.next)).setObj 30 (.slice zo xm.zs.length zc))
   rw [←hw6] at h
   have eV:(((V.setIfInBounds 28 (aI aK xm.ver)).setIfInBounds 29 (aI aK xm.next)).setIfInBounds 30 (.slice zo xm.zs.length zc))=VX:=by
    rw [HV.out,hVX]
    unfold wdV
    simp only [lA,lZ,lS]
   rw [eV] at h
   exact uH h
  have HVX:=uH hVX
  have Hz6:Hid (O.ZsAt w6 zo xm.zs):=uH (by
   have hne:=j0z (by rw [←HV.out];exact S.out.head) hz
   rw [hw6]
   exact g0u (g0u (g0u hz hne) hne) hne)
  clear hw6 hVX c28 c29 c30 sQ p3
  (have hC:=HCT.out);clear HCT;subst hC
  (have hR:=HR.out);clear HR;subst hR
  go_wp2_with fail
  go_ret
  have e1:b0p d.kind r=O.e0f r:=by unfold b0p;rw [k3];rfl
  have e2:(ex==0)=O.e0f r:=by rw [HE.out];exact eM_is r
  refine ⟨VX,S6.out,by rw [e1,←e2];rfl,fun hok=>?_⟩
  have hg:O.e0f r=true:=by rw [←e1];exact hok
  have ew:c0j d r={ d with mp:=(O.decM r).1 }:=by unfold c0j;rw [k3];rfl
  have ex2:(O.decM r).1=xm:=by rw [HX.out];exact (u0y hg).1.symm
  rw [ew,ex2]
  dsimp only
  exact ⟨zo,zc,none,0,by rw [HVX.out,hda];rfl,Hz6.out,by rw [hda];exact d0p _⟩
 have t3:(d.kind==3)=false:=by rw [beq_eq_false_iff_ne];exact k3
 ((refine a0a fun C HC=>?_);(go_wp2_with fail);(have hC:=HC.out);clear HC;subst hC;(refine wp_cond_false rfl ?_))
 by_cases k4:d.kind=4
 ·have t4:(d.kind==4)=true:=by rw [k4];rfl
  ((refine a0a fun C HC=>?_);(go_wp2_with fail);(have hC:=HC.out);clear HC;subst hC;(refine wp_cond_true rfl ?_))
  have hD:=(O.w0s ro rc r w Hr.out.n0 Hr.out.at_ (by have h1:=Hm.out.1;have h2:=Hm.out.2;omega)).mono (fun e w' h=>O.t0c h)
  obtain ⟨xc,hxm⟩:∃ x,x=O.xC r:=⟨_,rfl⟩
  obtain ⟨ex,hex⟩:∃ ex,ex=O.eC r:=⟨_,rfl⟩
  rw [←hxm,←hex] at hD
  have HD:=uH hD
  have HX:=uH hxm
  have HE:=uH hex
  clear hD hxm hex
  go_wp2_with fail
  refine HD.out.mono ?_
  rintro e w5 ⟨hb5,rfl⟩
  have S:=uH (S.out.grow hb5)
  clear hb5
  obtain ⟨c0,c1,c2,c3,c4,c5,c6,c7,c8,c9,c10,c11,c12,c13,c14,c15,c16,c17,c18,c19,c20,c21,c22,c23,c24,c25,c26,c27,c28,c29,c30,c31,c32,c33,c34,c35,c36⟩:=wbox (show w5.heap[Q]?=some (.cells (wdV d (.slice none 0 0) (.slice none 0 0)) 85 (0,0)) from (by rw [←HV.out];exact S.out.head))
  have sQ:=(S.out.a0b 0 rfl).1
  obtain ⟨-,-,p3⟩:=S.out.a0b 0 rfl
  clear c0 c1 c2 c3 c4 c5 c6 c7 c8 c9 c10 c11 c12 c13 c14 c15 c16 c17 c18 c19 c20 c21 c22 c23 c24 c25 c26 c27 c28 c29 c30 c36
  go_wp2_with fail
  refine a0d fun w6 hw6=>?_
  obtain ⟨VX,hVX⟩:∃ VX,VX=wdV { d with ch:=xc } (.slice none 0 0) (.slice none 0 0):=⟨_,rfl⟩
  have S6:Hid (St W w6 (a0c Q (.cells VX 85 (0,0))::L)):=by
   have h:=(((((S.out.setObj 31 (aI aK xc.kind)).setObj 32 (aI aK xc.zone)).setObj 33 (aI aK xc.epoch)).setObj 34 (aI aK xc.tt)).setObj 35 (aS xc.key))
   rw [←hw6] at h
   have eV:(((((V.setIfInBounds 31 (aI aK xc.kind)).setIfInBounds 32 (aI aK xc.zone)).setIfInBounds 33 (aI aK xc.epoch)).setIfInBounds 34 (aI aK xc.tt)).setIfInBounds 35 (aS xc.key))=VX:=by
    rw [HV.out,hVX]
    unfold wdV
    simp only [lA,lZ,lS]
   rw [eV] at h
   exact uH h
  have HVX:=uH hVX
  clear hw6 hVX c31 c32 c33 c34 c35 sQ p3
  (have hC:=HCT.out);clear HCT;subst hC
  (have hR:=HR.out);clear HR;subst hR
  go_wp2_with fail
  go_ret
  have e1:b0p d.kind r=O.f0w r:=by unfold b0p;rw [k4];rfl
  have e2:(ex==0)=O.f0w r:=by rw [HE.out];exact eC_is r
  refine ⟨VX,S6.out,by rw [e1,←e2];rfl,fun hok=>?_⟩
  have hg:O.f0w r=true:=by rw [←e1];exact hok
  have ew:c0j d r={ d with ch:=(O.decC r).1 }:=by unfold c0j;rw [k4];rfl
  have ex2:(O.decC r).1=xc:=by rw [HX.out];exact (v0a hg).symm
  rw [ew,ex2]
  dsimp only
  exact ⟨none,0,none,0,by rw [HVX.out,hmp,hda];rfl,by rw [hmp];exact d0c _,by rw [hda];exact d0p _⟩
 have t4:(d.kind==4)=false:=by rw [beq_eq_false_iff_ne];exact k4
 ((refine a0a fun C HC=>?_);(go_wp2_with fail);(have hC:=HC.out);clear HC;subst hC;(refine wp_cond_false rfl ?_))
 by_cases k5:d.kind=5
 ·have t5:(d.kind==5)=true:=by rw [k5];rfl
  ((refine a0a fun C HC=>?_);(go_wp2_with fail);(have hC:=HC.out);clear HC;subst hC;(refine wp_cond_true rfl ?_))
  have hD:=(dec_any ro rc r w Hr.out.n0 Hr.out.at_ (by have h1:=Hm.out.1;have h2:=Hm.out.2;omega)).mono (fun e w' h=>t0b h)
  obtain ⟨xo,hxm⟩:∃ x,x=xO r:=⟨_,rfl⟩
  obtain ⟨ex,hex⟩:∃ ex,ex=eO r:=⟨_,rfl⟩
  rw [←hxm,←hex] at hD
  have HD:=uH hD
  have HX:=uH hxm
  have HE:=uH hex
  clear hD hxm hex
  go_wp2_with fail
  refine HD.out.mono ?_
  rintro e w5 ⟨hb5,rfl⟩
  have S:=uH (S.out.grow hb5)
  clear hb5
  obtain ⟨c0,c1,c2,c3,c4,c5,c6,c7,c8,c9,c10,c11,c12,c13,c14,c15,c16,c17,c18,c19,c20,c21,c22,c23,c24,c25,c26,c27,c28,c29,c30,c31,c32,c33,c34,c35,c36⟩:=wbox (show w5.heap[Q]?=some (.cells (wdV d (.slice none 0 0) (.slice none 0 0)) 85 (0,0)) from (by rw [←HV.out];exact S.out.head))
  have sQ:=(S.out.a0b 0 rfl).1
  obtain ⟨-,-,p3⟩:=S.out.a0b 0 rfl
  clear c0 c1 c2 c3 c4 c5 c6 c7 c8 c9 c22 c23 c24 c25 c26 c27 c28 c29 c30 c31 c32 c33 c34 c35 c36
  go_wp2_with fail
  refine a0d fun w6 hw6=>?_
  obtain ⟨VX,hVX⟩:∃ VX,VX=wdV { d with op:=xo } (.slice none 0 0) (.slice none 0 0):=⟨_,rfl⟩
  have S6:Hid (St W w6 (a0c Q (.cells VX 85 (0,0))::L)):=by
   have h:=((((((((((((S.out.setObj 10 (aI aK xo.kind)).setObj 11 (aI aK xo.client)).setObj 12 (aI aK xo.seq)).setObj 13 (aS xo.key)).setObj 14 (aS xo.who)).setObj 15 (aS xo.tkey)).setObj 16 (aS xo.twho)).setObj 17 (aI aK xo.item)).setObj 18 (aI aK xo.count)).setObj 19 (aI aK xo.price)).setObj 20 (aB xo.buy)).setObj 21 (aI aK xo.id))
   rw [←hw6] at h
   have eV:((((((((((((V.setIfInBounds 10 (aI aK xo.kind)).setIfInBounds 11 (aI aK xo.client)).setIfInBounds 12 (aI aK xo.seq)).setIfInBounds 13 (aS xo.key)).setIfInBounds 14 (aS xo.who)).setIfInBounds 15 (aS xo.tkey)).setIfInBounds 16 (aS xo.twho)).setIfInBounds 17 (aI aK xo.item)).setIfInBounds 18 (aI aK xo.count)).setIfInBounds 19 (aI aK xo.price)).setIfInBounds 20 (aB xo.buy)).setIfInBounds 21 (aI aK xo.id))=VX:=by
    rw [HV.out,hVX]
    unfold wdV
    simp only [lA,lZ,lS]
   rw [eV] at h
   exact uH h
  have HVX:=uH hVX
  clear hw6 hVX c10 c11 c12 c13 c14 c15 c16 c17 c18 c19 c20 c21 sQ p3
  (have hC:=HCT.out);clear HCT;subst hC
  (have hR:=HR.out);clear HR;subst hR
  go_wp2_with fail
  go_ret
  have e1:b0p d.kind r=goodD r:=by unfold b0p;rw [k5];rfl
  have e2:(ex==0)=goodD r:=by rw [HE.out];exact eO_is r
  refine ⟨VX,S6.out,by rw [e1,←e2];rfl,fun hok=>?_⟩
  have hg:goodD r=true:=by rw [←e1];exact hok
  have ew:c0j d r={ d with op:=dqQ (decD r) }:=by unfold c0j;rw [k5];rfl
  have ex2:dqQ (decD r)=xo:=by rw [HX.out];unfold xO;rw [if_pos hg]
  rw [ew,ex2]
  dsimp only
  exact ⟨none,0,none,0,by rw [HVX.out,hmp,hda];rfl,by rw [hmp];exact d0c _,by rw [hda];exact d0p _⟩
 have t5:(d.kind==5)=false:=by rw [beq_eq_false_iff_ne];exact k5
 ((refine a0a fun C HC=>?_);(go_wp2_with fail);(have hC:=HC.out);clear HC;subst hC;(refine wp_cond_false rfl ?_))
 by_cases k6:d.kind=6
 ·have t6:(d.kind==6)=true:=by rw [k6];rfl
  ((refine a0a fun C HC=>?_);(go_wp2_with fail);(have hC:=HC.out);clear HC;subst hC;(refine wp_cond_true rfl ?_))
  have hD:=u0p ro rc r w Hr.out.n0 Hr.out.at_ (by have h1:=Hm.out.1;have h2:=Hm.out.2;omega)
  unfold t0h at hD
  obtain ⟨xr,hxm⟩:∃ x,x=repR r:=⟨_,rfl⟩
  obtain ⟨ex,hex⟩:∃ ex,ex=repE r:=⟨_,rfl⟩
  rw [←hxm,←hex] at hD
  have HD:=uH hD
  have HX:=uH hxm
  have HE:=uH hex
  clear hD hxm hex
  go_wp2_with fail
  refine HD.out.mono ?_
  rintro e w5 ⟨rfl,hb5⟩
  have S:=uH (S.out.grow hb5)
  clear hb5
  obtain ⟨c0,c1,c2,c3,c4,c5,c6,c7,c8,c9,c10,c11,c12,c13,c14,c15,c16,c17,c18,c19,c20,c21,c22,c23,c24,c25,c26,c27,c28,c29,c30,c31,c32,c33,c34,c35,c36⟩:=wbox (show w5.heap[Q]?=some (.cells (wdV d (.slice none 0 0) (.slice none 0 0)) 85 (0,0)) from (by rw [←HV.out];exact S.out.head))
  have sQ:=(S.out.a0b 0 rfl).1
  obtain ⟨-,-,p3⟩:=S.out.a0b 0 rfl
  clear c0 c1 c2 c3 c4 c5 c6 c7 c8 c9 c10 c11 c12 c13 c14 c15 c16 c17 c18 c19 c20 c21 c28 c29 c30 c31 c32 c33 c34 c35 c36
  go_wp2_with fail
  refine a0d fun w6 hw6=>?_
  obtain ⟨VX,hVX⟩:∃ VX,VX=wdV { d with rep:=xr } (.slice none 0 0) (.slice none 0 0):=⟨_,rfl⟩
  have S6:Hid (St W w6 (a0c Q (.cells VX 85 (0,0))::L)):=by
   have h:=((((((S.out.setObj 22 (aI aK xr.err)).setObj 23 (aI aK xr.id)).setObj 24 (aI aK xr.i.a)).setObj 25 (aI aK xr.i.b)).setObj 26 (aI aK xr.i.c)).setObj 27 (aI aK xr.i.d))
   rw [←hw6] at h
   have eV:((((((V.setIfInBounds 22 (aI aK xr.err)).setIfInBounds 23 (aI aK xr.id)).setIfInBounds 24 (aI aK xr.i.a)).setIfInBounds 25 (aI aK xr.i.b)).setIfInBounds 26 (aI aK xr.i.c)).setIfInBounds 27 (aI aK xr.i.d))=VX:=by
    rw [HV.out,hVX]
    unfold wdV
    simp only [lA,lZ,lS]
   rw [eV] at h
   exact uH h
  have HVX:=uH hVX
  clear hw6 hVX c22 c23 c24 c25 c26 c27 sQ p3
  (have hC:=HCT.out);clear HCT;subst hC
  (have hR:=HR.out);clear HR;subst hR
  go_wp2_with fail
  go_ret
  have e1:b0p d.kind r=e0m r:=by unfold b0p;rw [k6];rfl
  have e2:(ex==0)=e0m r:=by rw [HE.out];exact q0b r
  refine ⟨VX,S6.out,by rw [e1,←e2];rfl,fun hok=>?_⟩
  have hg:e0m r=true:=by rw [←e1];exact hok
  have ew:c0j d r={ d with rep:=rpOf r }:=by unfold c0j;rw [k6];rfl
  have ex2:rpOf r=xr:=by rw [HX.out];exact (g0v hg).1.symm
  rw [ew,ex2]
  dsimp only
  exact ⟨none,0,none,0,by rw [HVX.out,hmp,hda];rfl,by rw [hmp];exact d0c _,by rw [hda];exact d0p _⟩
 have t6:(d.kind==6)=false:=by rw [beq_eq_false_iff_ne];exact k6
 ((refine a0a fun C HC=>?_);(go_wp2_with fail);(have hC:=HC.out);clear HC;subst hC;(refine wp_cond_false rfl ?_))
 obtain ⟨c0,c1,c2,c3,c4,c5,c6,c7,c8,c9,c10,c11,c12,c13,c14,c15,c16,c17,c18,c19,c20,c21,c22,c23,c24,c25,c26,c27,c28,c29,c30,c31,c32,c33,c34,c35,c36⟩:=wbox (show w.heap[Q]?=some (.cells (wdV d (.slice none 0 0) (.slice none 0 0)) 85 (0,0)) from (by rw [←HV.out];exact S.out.head))
 have sQ:=(S.out.a0b 0 rfl).1
 obtain ⟨-,-,p3⟩:=S.out.a0b 0 rfl
 clear c0 c1 c2 c3 c4 c5 c6 c7 c8 c9 c10 c11 c12 c13 c14 c15 c16 c17 c18 c19 c20 c21 c22 c23 c24 c25 c26 c27 c28 c29 c30 c31 c32 c33 c34 c35
 obtain ⟨n,hn⟩:∃ n,n=r.length:=⟨_,rfl⟩
 rw [←hn]
 have Hn:=uH hn
 clear hn
 go_wp2_with fail
 refine a0d fun w6 hw6=>?_
 have S6:=uH (S.out.setObj 36 (.slice ro n rc))
 have Hr6:Hid (F.Sl w6 ro rc r):=uH (by rw [hw6];exact r0x Hr.out hQr)
 rw [←hw6] at S6
 clear hw6 c36 sQ p3
 (have hC:=HCT.out);clear HCT;subst hC
 (have hR:=HR.out);clear HR;subst hR
 go_wp2_with fail
 go_ret
 have eo:b0p d.kind r=true:=by unfold b0p;rw [if_neg k3,if_neg k4,if_neg k5,if_neg k6]
 have ew:c0j d r={ d with data:=r }:=by unfold c0j;rw [if_neg k3,if_neg k4,if_neg k5,if_neg k6]
 refine ⟨_,S6.out,by rw [eo];rfl,fun _=>?_⟩
 rw [ew]
 dsimp only
 refine ⟨none,0,ro,rc,?_,by rw [hmp];exact d0c _,Hr6.out⟩
 have hz0:d.mp.zs.length=0:=by rw [hmp];rfl
 rw [HV.out,hz0,Hn.out]
 unfold wdV
 simp only [lA,lZ,lS]
end Go.Proofs.YtogamdaomdoapaaGreat