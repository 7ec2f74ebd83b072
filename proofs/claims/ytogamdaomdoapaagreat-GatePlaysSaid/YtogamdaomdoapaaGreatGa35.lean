/- Texts put together: WQ4, WQ5. -/
import Derived.Test.YtogamdaomdoapaaGreatGa34
namespace Go.Proofs.YtogamdaomdoapaaGreat
open Go.Value renaming int→aI,string→aS
open Go.IntKind renaming i64→aK
open List renaming setIfInBounds_toArray→lA,set_cons_zero→lZ,set_cons_succ→lS
open Go.Lib renaming hid→uH
set_option maxRecDepth 20000
open Go.RowKit
set_option maxHeartbeats 4000000 in
theorem may_q6 {c:Code} (hb:(Tryz.f23).body=some c) {d:Wd} {ms ds:Value} {V:Array Value} (hV:V=wdV d ms ds) (ao dl:Option Addr) (zc dc:Nat) (hms:ms=.slice ao d.mp.zs.length zc) (hds:ds=.slice dl d.data.length dc) (w wa:World) (_hz:O.ZsAt w ao d.mp.zs) (_hbd:BAt w dl d.data) (_hl:d.mp.zs.length≤1000) (B P:Nat) (hk:d.kind=6)
 (H:Hid (z0j d w wa B P V)) (r:Bool) (hr:r=docW d)
 {K2:Act→World→Prop} (hT:e0h K2 w V B P r d):z0k c K2 V B P w wa r:=by
 unfold z0j at H
 unfold z0k
 intros
 have hs:V.size=37:=by rw [hV];rfl
 have HV:=uH hV
 clear hV
 rw [e0w] at hr
 have e2:a0v d={ pl0 with op:=d.op,err:=d.err,rep:=d.rep,host:=d.host }:=by simp [a0v,hk]
 have e3:mapW d=mp0:=by simp [mapW,hasM,hk]
 have e4:e0p d=[]:=by simp [e0p,hasD,hk]
 rw [e2,e3,e4] at hr
 clear e2 e3 e4
 have e1:okD d=(ansD d):=by simp [okD,hk,ansD]
 rw [e1] at hr
 clear e1
 have Hr:=uH hr
 clear hr
 subst hms hds
 cases hb
 simp only [sndC,fstC]
 have S:=H
 clear H
 have s0:=(S.out.a0b 1 rfl).1
 obtain ⟨c0,c1,c2,c3,c4,c5,c6,c7,c8,c9,c10,c11,c12,c13,c14,c15,c16,c17,c18,c19,c20,c21,c22,c23,c24,c25,c26,c27,c28,c29,c30,c31,c32,c33,c34,c35,c36⟩:=a0r (show wa.heap[B]?=some (.cells (wdV d (.slice ao d.mp.zs.length zc) (.slice dl d.data.length dc)) 49 (0,0)) from (by rw [←HV.out];exact (S.out.pull (A:=[_])).head))
 rw [hk] at c0
 clear c1 c2 c3 c4 c5 c6 c7 c8 c9 c10 c11 c12 c13 c14 c15 c16 c17 c18 c19 c20 c21 c22 c23 c24 c25 c26 c27 c28 c29 c30 c31 c32 c33 c34 c35 c36
 refine a0a fun C HC=>?_
 go_wp2_with fail
 (have hC:=HC.out);clear HC;subst hC
 clear c0 s0
 refine wp_block ?_
 iterate 5 ((refine a0a fun C HC=>?_);(go_wp2_with fail);(have hC:=HC.out);clear HC;subst hC;(refine wp_cond_false rfl ?_))
 ((refine a0a fun C HC=>?_);(go_wp2_with fail);(have hC:=HC.out);clear HC;subst hC;(refine wp_cond_true rfl ?_))
 refine a0a fun C2 HC2=>?_
 refine wp_seq ?_
 ((obtain ⟨wd,hwd⟩:∃ wd,wd=wa.drew:=⟨_,rfl⟩);(have S:=uH (S.out.grow (w':=wd) (by rw [hwd];exact (Below.refl _ _).drew)));(have HC:Hid (wd.heap[B]?=some (.cells V 49 (0,0))):=uH (S.out.pull (A:=[_])).head);(refine wp_region_noPanic ?_);(refine wp_region_held (S:=(fun W:World=>W.heap[B]?=some (.cells V 49 (0,0)))) (by kernel_rfl) ?_);change wpAnyH _ _ _ _ _ _ _ _ (World.drew _);(rw [←hwd]);clear hwd)
 (refine tkD (i:=0) (v:=.pointer (some ⟨B,10,none⟩)) 50 rfl (fun w hSw=>(by obtain ⟨c0,c1,c2,c3,c4,c5,c6,c7,c8,c9,c10,c11,c12,c13,c14,c15,c16,c17,c18,c19,c20,c21,c22,c23,c24,c25,c26,c27,c28,c29,c30,c31,c32,c33,c34,c35,c36⟩:=a0r (show w.heap[B]?=some (.cells (wdV d (.slice ao d.mp.zs.length zc) (.slice dl d.data.length dc)) 49 (0,0)) from (by rw [←HV.out];exact hSw));go_simp)) HC.out ?_;(try simp only [Act.put,lA,lZ,lS]))
 (refine tkD (i:=1) (v:=.agg #[aI aK d.op.kind,aI aK d.op.client,aI aK d.op.seq,aS d.op.key,aS d.op.who,aS d.op.tkey,aS d.op.twho,aI aK d.op.item,aI aK d.op.count,aI aK d.op.price,.bool d.op.buy,aI aK d.op.id]) 51 rfl (fun w hSw=>(by obtain ⟨c0,c1,c2,c3,c4,c5,c6,c7,c8,c9,c10,c11,c12,c13,c14,c15,c16,c17,c18,c19,c20,c21,c22,c23,c24,c25,c26,c27,c28,c29,c30,c31,c32,c33,c34,c35,c36⟩:=a0r (show w.heap[B]?=some (.cells (wdV d (.slice ao d.mp.zs.length zc) (.slice dl d.data.length dc)) 49 (0,0)) from (by rw [←HV.out];exact hSw));go_simp)) HC.out ?_;(try simp only [Act.put,lA,lZ,lS]))
 (refine tkD (i:=2) (v:=.pointer (some ⟨B,7,none⟩)) 52 rfl (fun w hSw=>(by obtain ⟨c0,c1,c2,c3,c4,c5,c6,c7,c8,c9,c10,c11,c12,c13,c14,c15,c16,c17,c18,c19,c20,c21,c22,c23,c24,c25,c26,c27,c28,c29,c30,c31,c32,c33,c34,c35,c36⟩:=a0r (show w.heap[B]?=some (.cells (wdV d (.slice ao d.mp.zs.length zc) (.slice dl d.data.length dc)) 49 (0,0)) from (by rw [←HV.out];exact hSw));go_simp)) HC.out ?_;(try simp only [Act.put,lA,lZ,lS]))
 (refine tkD (i:=3) (v:=aI aK d.err) 53 rfl (fun w hSw=>(by obtain ⟨c0,c1,c2,c3,c4,c5,c6,c7,c8,c9,c10,c11,c12,c13,c14,c15,c16,c17,c18,c19,c20,c21,c22,c23,c24,c25,c26,c27,c28,c29,c30,c31,c32,c33,c34,c35,c36⟩:=a0r (show w.heap[B]?=some (.cells (wdV d (.slice ao d.mp.zs.length zc) (.slice dl d.data.length dc)) 49 (0,0)) from (by rw [←HV.out];exact hSw));go_simp)) HC.out ?_;(try simp only [Act.put,lA,lZ,lS]))
 (refine tkD (i:=4) (v:=.pointer (some ⟨B,22,none⟩)) 54 rfl (fun w hSw=>(by obtain ⟨c0,c1,c2,c3,c4,c5,c6,c7,c8,c9,c10,c11,c12,c13,c14,c15,c16,c17,c18,c19,c20,c21,c22,c23,c24,c25,c26,c27,c28,c29,c30,c31,c32,c33,c34,c35,c36⟩:=a0r (show w.heap[B]?=some (.cells (wdV d (.slice ao d.mp.zs.length zc) (.slice dl d.data.length dc)) 49 (0,0)) from (by rw [←HV.out];exact hSw));go_simp)) HC.out ?_;(try simp only [Act.put,lA,lZ,lS]))
 (refine tkD (i:=5) (v:=.agg #[aI aK d.rep.err,aI aK d.rep.id,aI aK d.rep.i.a,aI aK d.rep.i.b,aI aK d.rep.i.c,aI aK d.rep.i.d]) 55 rfl (fun w hSw=>(by obtain ⟨c0,c1,c2,c3,c4,c5,c6,c7,c8,c9,c10,c11,c12,c13,c14,c15,c16,c17,c18,c19,c20,c21,c22,c23,c24,c25,c26,c27,c28,c29,c30,c31,c32,c33,c34,c35,c36⟩:=a0r (show w.heap[B]?=some (.cells (wdV d (.slice ao d.mp.zs.length zc) (.slice dl d.data.length dc)) 49 (0,0)) from (by rw [←HV.out];exact hSw));go_simp)) HC.out ?_;(try simp only [Act.put,lA,lZ,lS]))
 (refine tkD (i:=6) (v:=.pointer (some ⟨B,6,none⟩)) 56 rfl (fun w hSw=>(by obtain ⟨c0,c1,c2,c3,c4,c5,c6,c7,c8,c9,c10,c11,c12,c13,c14,c15,c16,c17,c18,c19,c20,c21,c22,c23,c24,c25,c26,c27,c28,c29,c30,c31,c32,c33,c34,c35,c36⟩:=a0r (show w.heap[B]?=some (.cells (wdV d (.slice ao d.mp.zs.length zc) (.slice dl d.data.length dc)) 49 (0,0)) from (by rw [←HV.out];exact hSw));go_simp)) HC.out ?_;(try simp only [Act.put,lA,lZ,lS]))
 (refine tkD (i:=7) (v:=aI aK d.host) 57 rfl (fun w hSw=>(by obtain ⟨c0,c1,c2,c3,c4,c5,c6,c7,c8,c9,c10,c11,c12,c13,c14,c15,c16,c17,c18,c19,c20,c21,c22,c23,c24,c25,c26,c27,c28,c29,c30,c31,c32,c33,c34,c35,c36⟩:=a0r (show w.heap[B]?=some (.cells (wdV d (.slice ao d.mp.zs.length zc) (.slice dl d.data.length dc)) 49 (0,0)) from (by rw [←HV.out];exact hSw));go_simp)) HC.out ?_;(try simp only [Act.put,lA,lZ,lS]))
 (refine tkD (i:=8) (v:=.pointer (some ⟨P,10,none⟩)) 58 rfl (fun w hSw=>(by obtain ⟨c0,c1,c2,c3,c4,c5,c6,c7,c8,c9,c10,c11,c12,c13,c14,c15,c16,c17,c18,c19,c20,c21,c22,c23,c24,c25,c26,c27,c28,c29,c30,c31,c32,c33,c34,c35,c36⟩:=a0r (show w.heap[B]?=some (.cells (wdV d (.slice ao d.mp.zs.length zc) (.slice dl d.data.length dc)) 49 (0,0)) from (by rw [←HV.out];exact hSw));go_simp)) HC.out ?_;(try simp only [Act.put,lA,lZ,lS]))
 (refine oneD 9 rfl (fun K' hK'=>?_))
 ((obtain ⟨p1,p2,p3⟩:=S.out.a0b 0 rfl);go_simp;(refine hK' _ _ ⟨?_,a0k fun w5 hw5=>?_⟩);(exact (((((((((((((S.out.setObj 10 (aI aK d.op.kind)).setObj 11 (aI aK d.op.client)).setObj 12 (aI aK d.op.seq)).setObj 13 (aS d.op.key)).setObj 14 (aS d.op.who)).setObj 15 (aS d.op.tkey)).setObj 16 (aS d.op.twho)).setObj 17 (aI aK d.op.item)).setObj 18 (aI aK d.op.count)).setObj 19 (aI aK d.op.price)).setObj 20 (.bool d.op.buy)).setObj 21 (aI aK d.op.id)).pull (A:=[_])).head);(have S:=uH (((((((((((((S.out.setObj 10 (aI aK d.op.kind)).setObj 11 (aI aK d.op.client)).setObj 12 (aI aK d.op.seq)).setObj 13 (aS d.op.key)).setObj 14 (aS d.op.who)).setObj 15 (aS d.op.tkey)).setObj 16 (aS d.op.twho)).setObj 17 (aI aK d.op.item)).setObj 18 (aI aK d.op.count)).setObj 19 (aI aK d.op.price)).setObj 20 (.bool d.op.buy)).setObj 21 (aI aK d.op.id))));(rw [←hw5] at S);(simp only [lA,lZ,lS] at S);(have HC:Hid (w5.heap[B]?=some (.cells V 49 (0,0))):=uH (S.out.pull (A:=[_])).head);clear hw5 p1 p2 p3 hK' K';(try simp only [Act.put,lA,lZ,lS]))
 (refine tkD (i:=10) (v:=.pointer (some ⟨P,7,none⟩)) 59 rfl (fun w hSw=>(by obtain ⟨c0,c1,c2,c3,c4,c5,c6,c7,c8,c9,c10,c11,c12,c13,c14,c15,c16,c17,c18,c19,c20,c21,c22,c23,c24,c25,c26,c27,c28,c29,c30,c31,c32,c33,c34,c35,c36⟩:=a0r (show w.heap[B]?=some (.cells (wdV d (.slice ao d.mp.zs.length zc) (.slice dl d.data.length dc)) 49 (0,0)) from (by rw [←HV.out];exact hSw));go_simp)) HC.out ?_;(try simp only [Act.put,lA,lZ,lS]))
 (refine oneD 11 rfl (fun K' hK'=>?_))
 ((obtain ⟨p1,p2,p3⟩:=S.out.a0b 0 rfl);go_simp;(refine hK' _ _ ⟨?_,a0k fun w5 hw5=>?_⟩);(exact ((S.out.setObj 7 (aI aK d.err)).pull (A:=[_])).head);(have S:=uH ((S.out.setObj 7 (aI aK d.err))));(rw [←hw5] at S);(simp only [lA,lZ,lS] at S);(have HC:Hid (w5.heap[B]?=some (.cells V 49 (0,0))):=uH (S.out.pull (A:=[_])).head);clear hw5 p1 p2 p3 hK' K';(try simp only [Act.put,lA,lZ,lS]))
 (refine tkD (i:=12) (v:=.pointer (some ⟨P,22,none⟩)) 60 rfl (fun w hSw=>(by obtain ⟨c0,c1,c2,c3,c4,c5,c6,c7,c8,c9,c10,c11,c12,c13,c14,c15,c16,c17,c18,c19,c20,c21,c22,c23,c24,c25,c26,c27,c28,c29,c30,c31,c32,c33,c34,c35,c36⟩:=a0r (show w.heap[B]?=some (.cells (wdV d (.slice ao d.mp.zs.length zc) (.slice dl d.data.length dc)) 49 (0,0)) from (by rw [←HV.out];exact hSw));go_simp)) HC.out ?_;(try simp only [Act.put,lA,lZ,lS]))
 (refine oneD 13 rfl (fun K' hK'=>?_))
 ((obtain ⟨p1,p2,p3⟩:=S.out.a0b 0 rfl);go_simp;(refine hK' _ _ ⟨?_,a0k fun w5 hw5=>?_⟩);(exact (((((((S.out.setObj 22 (aI aK d.rep.err)).setObj 23 (aI aK d.rep.id)).setObj 24 (aI aK d.rep.i.a)).setObj 25 (aI aK d.rep.i.b)).setObj 26 (aI aK d.rep.i.c)).setObj 27 (aI aK d.rep.i.d)).pull (A:=[_])).head);(have S:=uH (((((((S.out.setObj 22 (aI aK d.rep.err)).setObj 23 (aI aK d.rep.id)).setObj 24 (aI aK d.rep.i.a)).setObj 25 (aI aK d.rep.i.b)).setObj 26 (aI aK d.rep.i.c)).setObj 27 (aI aK d.rep.i.d))));(rw [←hw5] at S);(simp only [lA,lZ,lS] at S);(have HC:Hid (w5.heap[B]?=some (.cells V 49 (0,0))):=uH (S.out.pull (A:=[_])).head);clear hw5 p1 p2 p3 hK' K';(try simp only [Act.put,lA,lZ,lS]))
 (refine tkD (i:=14) (v:=.pointer (some ⟨P,6,none⟩)) 61 rfl (fun w hSw=>(by obtain ⟨c0,c1,c2,c3,c4,c5,c6,c7,c8,c9,c10,c11,c12,c13,c14,c15,c16,c17,c18,c19,c20,c21,c22,c23,c24,c25,c26,c27,c28,c29,c30,c31,c32,c33,c34,c35,c36⟩:=a0r (show w.heap[B]?=some (.cells (wdV d (.slice ao d.mp.zs.length zc) (.slice dl d.data.length dc)) 49 (0,0)) from (by rw [←HV.out];exact hSw));go_simp)) HC.out ?_;(try simp only [Act.put,lA,lZ,lS]))
 (refine oneD 15 rfl (fun K' hK'=>?_))
 ((obtain ⟨p1,p2,p3⟩:=S.out.a0b 0 rfl);go_simp;(refine hK' _ _ ⟨?_,a0k fun w5 hw5=>?_⟩);(exact ((S.out.setObj 6 (aI aK d.host)).pull (A:=[_])).head);(have S:=uH ((S.out.setObj 6 (aI aK d.host))));(rw [←hw5] at S);(simp only [lA,lZ,lS] at S);(have HC:Hid (w5.heap[B]?=some (.cells V 49 (0,0))):=uH (S.out.pull (A:=[_])).head);clear hw5 p1 p2 p3 hK' K';(try simp only [Act.put,lA,lZ,lS]))
 ((refine wpAnyH_done (by kernel_rfl) ?_ _);(refine NoPanic.normal ?_);(go_wp2_with fail))
 (have hC:=HC2.out);clear HC2;subst hC
 clear HC
 refine wp_region_lit ?_
 (refine wpList_load_row rfl 49 _ rfl B rfl _ _ _ _ ((S.out.pull (A:=[_])).head) Tryz.underlying49 rfl (by rw [hs];kernel_rfl) ?_)
 go_wp2_with fail
 refine (r0l HV.out _).mono ?_
 rintro e w6 ⟨rfl,hb6⟩
 have S:=uH (S.out.grow hb6)
 clear hb6
 go_wp2_with fail
 (exact hT _ (xW d ({ pl0 with op:=d.op,err:=d.err,rep:=d.rep,host:=d.host }) (mp0) ([])) none none 0 0 (ansD d) _ _ _ _ _ _ _ _ _ _ _ _ _ _ _ _ _ _ _ _ _ _ _ _ _ _ _ _ _ _ _ _ _ _ _ _ _ _ _ _ _ _ _ _ _ _ _ _ _ _ _ _ _ _ _ _ _ _ _ _ _ _ _ _ _ _ _ _ _ _ _ _ _ _ _ _ _ _ _ _ _ _ _ _ _ _ _ _ _ _ _ _ _ _ _ _ _ _ _ _ _ _ _ _ _ _ _ _ _ _ _ _ _ _ _ _ _ _ _ _ _ _ _ _ _ _ _ _ _ _ _ _ _ _ _ _ _ _ _ _ _ _ _ _ _ _ _ _ _ _ _ _ _ _ _ _ _ _ _ _ _ _ _ _ _ _ _ _ _ _ _ _ _ _ _ _ _ _ _ _ _ _ _ _ _ _ _ _ _ _ _ _ _ _ _ _ _ S.out (f0l _) (i0r _) (Nat.zero_le _) (Hr.out))
set_option maxRecDepth 20000
open Go.RowKit
set_option maxHeartbeats 4000000 in
theorem may_q7 {c:Code} (hb:(Tryz.f23).body=some c) {d:Wd} {ms ds:Value} {V:Array Value} (hV:V=wdV d ms ds) (ao dl:Option Addr) (zc dc:Nat) (hms:ms=.slice ao d.mp.zs.length zc) (hds:ds=.slice dl d.data.length dc) (w wa:World) (_hz:O.ZsAt w ao d.mp.zs) (hbd:BAt w dl d.data) (_hl:d.mp.zs.length≤1000) (B P:Nat) (hk:d.kind=7)
 (H:Hid (z0j d w wa B P V)) (r:Bool) (hr:r=docW d)
 {K2:Act→World→Prop} (hT:e0h K2 w V B P r d):z0k c K2 V B P w wa r:=by
 unfold z0j at H
 unfold z0k
 intros
 have HV:=uH hV
 have Hbd:=uH hbd
 clear hV hbd
 rw [e0w] at hr
 have e2:a0v d={ pl0 with zone:=d.zone,epoch:=d.epoch,index:=d.index,size:=d.size,off:=d.off,sf:=d.sf,st:=d.st }:=by simp [a0v,hk]
 have e3:mapW d=mp0:=by simp [mapW,hasM,hk]
 have e4:e0p d=d.data:=by simp [e0p,hasD,hk]
 rw [e2,e3,e4] at hr
 clear e2 e3 e4
 have Hr:=uH hr
 clear hr
 subst hms hds
 cases hb
 simp only [sndC,fstC]
 have S:=H
 clear H
 have s0:=(S.out.a0b 1 rfl).1
 obtain ⟨c0,c1,c2,c3,c4,c5,c6,c7,c8,c9,c10,c11,c12,c13,c14,c15,c16,c17,c18,c19,c20,c21,c22,c23,c24,c25,c26,c27,c28,c29,c30,c31,c32,c33,c34,c35,c36⟩:=a0r (show wa.heap[B]?=some (.cells (wdV d (.slice ao d.mp.zs.length zc) (.slice dl d.data.length dc)) 49 (0,0)) from (by rw [←HV.out];exact (S.out.pull (A:=[_])).head))
 rw [hk] at c0
 clear c1 c2 c3 c4 c5 c6 c7 c8 c9 c10 c11 c12 c13 c14 c15 c16 c17 c18 c19 c20 c21 c22 c23 c24 c25 c26 c27 c28 c29 c30 c31 c32 c33 c34 c35 c36
 refine a0a fun C HC=>?_
 go_wp2_with fail
 (have hC:=HC.out);clear HC;subst hC
 clear c0 s0
 refine wp_block ?_
 iterate 6 ((refine a0a fun C HC=>?_);(go_wp2_with fail);(have hC:=HC.out);clear HC;subst hC;(refine wp_cond_false rfl ?_))
 ((refine a0a fun C HC=>?_);(go_wp2_with fail);(have hC:=HC.out);clear HC;subst hC;(refine wp_cond_true rfl ?_))
 refine a0a fun C2 HC2=>?_
 refine wp_seq ?_
 ((obtain ⟨wd,hwd⟩:∃ wd,wd=wa.drew:=⟨_,rfl⟩);(have S:=uH (S.out.grow (w':=wd) (by rw [hwd];exact (Below.refl _ _).drew)));(have HC:Hid (wd.heap[B]?=some (.cells V 49 (0,0))):=uH (S.out.pull (A:=[_])).head);(refine wp_region_noPanic ?_);(refine wp_region_held (S:=(fun W:World=>W.heap[B]?=some (.cells V 49 (0,0)))) (by kernel_rfl) ?_);change wpAnyH _ _ _ _ _ _ _ _ (World.drew _);(rw [←hwd]);clear hwd)
 (refine tkD (i:=0) (v:=.pointer (some ⟨B,1,none⟩)) 66 rfl (fun w hSw=>(by obtain ⟨c0,c1,c2,c3,c4,c5,c6,c7,c8,c9,c10,c11,c12,c13,c14,c15,c16,c17,c18,c19,c20,c21,c22,c23,c24,c25,c26,c27,c28,c29,c30,c31,c32,c33,c34,c35,c36⟩:=a0r (show w.heap[B]?=some (.cells (wdV d (.slice ao d.mp.zs.length zc) (.slice dl d.data.length dc)) 49 (0,0)) from (by rw [←HV.out];exact hSw));go_simp)) HC.out ?_;(try simp only [Act.put,lA,lZ,lS]))
 (refine tkD (i:=1) (v:=aI aK d.zone) 67 rfl (fun w hSw=>(by obtain ⟨c0,c1,c2,c3,c4,c5,c6,c7,c8,c9,c10,c11,c12,c13,c14,c15,c16,c17,c18,c19,c20,c21,c22,c23,c24,c25,c26,c27,c28,c29,c30,c31,c32,c33,c34,c35,c36⟩:=a0r (show w.heap[B]?=some (.cells (wdV d (.slice ao d.mp.zs.length zc) (.slice dl d.data.length dc)) 49 (0,0)) from (by rw [←HV.out];exact hSw));go_simp)) HC.out ?_;(try simp only [Act.put,lA,lZ,lS]))
 (refine tkD (i:=2) (v:=.pointer (some ⟨B,2,none⟩)) 68 rfl (fun w hSw=>(by obtain ⟨c0,c1,c2,c3,c4,c5,c6,c7,c8,c9,c10,c11,c12,c13,c14,c15,c16,c17,c18,c19,c20,c21,c22,c23,c24,c25,c26,c27,c28,c29,c30,c31,c32,c33,c34,c35,c36⟩:=a0r (show w.heap[B]?=some (.cells (wdV d (.slice ao d.mp.zs.length zc) (.slice dl d.data.length dc)) 49 (0,0)) from (by rw [←HV.out];exact hSw));go_simp)) HC.out ?_;(try simp only [Act.put,lA,lZ,lS]))
 (refine tkD (i:=3) (v:=aI aK d.epoch) 69 rfl (fun w hSw=>(by obtain ⟨c0,c1,c2,c3,c4,c5,c6,c7,c8,c9,c10,c11,c12,c13,c14,c15,c16,c17,c18,c19,c20,c21,c22,c23,c24,c25,c26,c27,c28,c29,c30,c31,c32,c33,c34,c35,c36⟩:=a0r (show w.heap[B]?=some (.cells (wdV d (.slice ao d.mp.zs.length zc) (.slice dl d.data.length dc)) 49 (0,0)) from (by rw [←HV.out];exact hSw));go_simp)) HC.out ?_;(try simp only [Act.put,lA,lZ,lS]))
 (refine tkD (i:=4) (v:=.pointer (some ⟨B,3,none⟩)) 70 rfl (fun w hSw=>(by obtain ⟨c0,c1,c2,c3,c4,c5,c6,c7,c8,c9,c10,c11,c12,c13,c14,c15,c16,c17,c18,c19,c20,c21,c22,c23,c24,c25,c26,c27,c28,c29,c30,c31,c32,c33,c34,c35,c36⟩:=a0r (show w.heap[B]?=some (.cells (wdV d (.slice ao d.mp.zs.length zc) (.slice dl d.data.length dc)) 49 (0,0)) from (by rw [←HV.out];exact hSw));go_simp)) HC.out ?_;(try simp only [Act.put,lA,lZ,lS]))
 (refine tkD (i:=5) (v:=aI aK d.index) 71 rfl (fun w hSw=>(by obtain ⟨c0,c1,c2,c3,c4,c5,c6,c7,c8,c9,c10,c11,c12,c13,c14,c15,c16,c17,c18,c19,c20,c21,c22,c23,c24,c25,c26,c27,c28,c29,c30,c31,c32,c33,c34,c35,c36⟩:=a0r (show w.heap[B]?=some (.cells (wdV d (.slice ao d.mp.zs.length zc) (.slice dl d.data.length dc)) 49 (0,0)) from (by rw [←HV.out];exact hSw));go_simp)) HC.out ?_;(try simp only [Act.put,lA,lZ,lS]))
 (refine tkD (i:=6) (v:=.pointer (some ⟨B,4,none⟩)) 72 rfl (fun w hSw=>(by obtain ⟨c0,c1,c2,c3,c4,c5,c6,c7,c8,c9,c10,c11,c12,c13,c14,c15,c16,c17,c18,c19,c20,c21,c22,c23,c24,c25,c26,c27,c28,c29,c30,c31,c32,c33,c34,c35,c36⟩:=a0r (show w.heap[B]?=some (.cells (wdV d (.slice ao d.mp.zs.length zc) (.slice dl d.data.length dc)) 49 (0,0)) from (by rw [←HV.out];exact hSw));go_simp)) HC.out ?_;(try simp only [Act.put,lA,lZ,lS]))
 (refine tkD (i:=7) (v:=aI aK d.size) 73 rfl (fun w hSw=>(by obtain ⟨c0,c1,c2,c3,c4,c5,c6,c7,c8,c9,c10,c11,c12,c13,c14,c15,c16,c17,c18,c19,c20,c21,c22,c23,c24,c25,c26,c27,c28,c29,c30,c31,c32,c33,c34,c35,c36⟩:=a0r (show w.heap[B]?=some (.cells (wdV d (.slice ao d.mp.zs.length zc) (.slice dl d.data.length dc)) 49 (0,0)) from (by rw [←HV.out];exact hSw));go_simp)) HC.out ?_;(try simp only [Act.put,lA,lZ,lS]))
 (refine tkD (i:=8) (v:=.pointer (some ⟨B,5,none⟩)) 74 rfl (fun w hSw=>(by obtain ⟨c0,c1,c2,c3,c4,c5,c6,c7,c8,c9,c10,c11,c12,c13,c14,c15,c16,c17,c18,c19,c20,c21,c22,c23,c24,c25,c26,c27,c28,c29,c30,c31,c32,c33,c34,c35,c36⟩:=a0r (show w.heap[B]?=some (.cells (wdV d (.slice ao d.mp.zs.length zc) (.slice dl d.data.length dc)) 49 (0,0)) from (by rw [←HV.out];exact hSw));go_simp)) HC.out ?_;(try simp only [Act.put,lA,lZ,lS]))
 (refine tkD (i:=9) (v:=aI aK d.off) 75 rfl (fun w hSw=>(by obtain ⟨c0,c1,c2,c3,c4,c5,c6,c7,c8,c9,c10,c11,c12,c13,c14,c15,c16,c17,c18,c19,c20,c21,c22,c23,c24,c25,c26,c27,c28,c29,c30,c31,c32,c33,c34,c35,c36⟩:=a0r (show w.heap[B]?=some (.cells (wdV d (.slice ao d.mp.zs.length zc) (.slice dl d.data.length dc)) 49 (0,0)) from (by rw [←HV.out];exact hSw));go_simp)) HC.out ?_;(try simp only [Act.put,lA,lZ,lS]))
 (refine tkD (i:=10) (v:=.pointer (some ⟨B,8,none⟩)) 76 rfl (fun w hSw=>(by obtain ⟨c0,c1,c2,c3,c4,c5,c6,c7,c8,c9,c10,c11,c12,c13,c14,c15,c16,c17,c18,c19,c20,c21,c22,c23,c24,c25,c26,c27,c28,c29,c30,c31,c32,c33,c34,c35,c36⟩:=a0r (show w.heap[B]?=some (.cells (wdV d (.slice ao d.mp.zs.length zc) (.slice dl d.data.length dc)) 49 (0,0)) from (by rw [←HV.out];exact hSw));go_simp)) HC.out ?_;(try simp only [Act.put,lA,lZ,lS]))
 (refine tkD (i:=11) (v:=.agg #[aS d.sf,aS d.st]) 77 rfl (fun w hSw=>(by obtain ⟨c0,c1,c2,c3,c4,c5,c6,c7,c8,c9,c10,c11,c12,c13,c14,c15,c16,c17,c18,c19,c20,c21,c22,c23,c24,c25,c26,c27,c28,c29,c30,c31,c32,c33,c34,c35,c36⟩:=a0r (show w.heap[B]?=some (.cells (wdV d (.slice ao d.mp.zs.length zc) (.slice dl d.data.length dc)) 49 (0,0)) from (by rw [←HV.out];exact hSw));go_simp)) HC.out ?_;(try simp only [Act.put,lA,lZ,lS]))
 (refine tkD (i:=12) (v:=.pointer (some ⟨B,36,none⟩)) 78 rfl (fun w hSw=>(by obtain ⟨c0,c1,c2,c3,c4,c5,c6,c7,c8,c9,c10,c11,c12,c13,c14,c15,c16,c17,c18,c19,c20,c21,c22,c23,c24,c25,c26,c27,c28,c29,c30,c31,c32,c33,c34,c35,c36⟩:=a0r (show w.heap[B]?=some (.cells (wdV d (.slice ao d.mp.zs.length zc) (.slice dl d.data.length dc)) 49 (0,0)) from (by rw [←HV.out];exact hSw));go_simp)) HC.out ?_;(try simp only [Act.put,lA,lZ,lS]))
 (refine tkD (i:=13) (v:=.slice dl d.data.length dc) 79 rfl (fun w hSw=>(by obtain ⟨c0,c1,c2,c3,c4,c5,c6,c7,c8,c9,c10,c11,c12,c13,c14,c15,c16,c17,c18,c19,c20,c21,c22,c23,c24,c25,c26,c27,c28,c29,c30,c31,c32,c33,c34,c35,c36⟩:=a0r (show w.heap[B]?=some (.cells (wdV d (.slice ao d.mp.zs.length zc) (.slice dl d.data.length dc)) 49 (0,0)) from (by rw [←HV.out];exact hSw));go_simp)) HC.out ?_;(try simp only [Act.put,lA,lZ,lS]))
 (refine tkD (i:=14) (v:=.pointer (some ⟨P,1,none⟩)) 80 rfl (fun w hSw=>(by obtain ⟨c0,c1,c2,c3,c4,c5,c6,c7,c8,c9,c10,c11,c12,c13,c14,c15,c16,c17,c18,c19,c20,c21,c22,c23,c24,c25,c26,c27,c28,c29,c30,c31,c32,c33,c34,c35,c36⟩:=a0r (show w.heap[B]?=some (.cells (wdV d (.slice ao d.mp.zs.length zc) (.slice dl d.data.length dc)) 49 (0,0)) from (by rw [←HV.out];exact hSw));go_simp)) HC.out ?_;(try simp only [Act.put,lA,lZ,lS]))
 (refine oneD 15 rfl (fun K' hK'=>?_))
 ((obtain ⟨p1,p2,p3⟩:=S.out.a0b 0 rfl);go_simp;(refine hK' _ _ ⟨?_,a0k fun w5 hw5=>?_⟩);(exact ((S.out.setObj 1 (aI aK d.zone)).pull (A:=[_])).head);(have S:=uH ((S.out.setObj 1 (aI aK d.zone))));(rw [←hw5] at S);(simp only [lA,lZ,lS] at S);(have HC:Hid (w5.heap[B]?=some (.cells V 49 (0,0))):=uH (S.out.pull (A:=[_])).head);clear hw5 p1 p2 p3 hK' K';(try simp only [Act.put,lA,lZ,lS]))
 (refine tkD (i:=16) (v:=.pointer (some ⟨P,2,none⟩)) 81 rfl (fun w hSw=>(by obtain ⟨c0,c1,c2,c3,c4,c5,c6,c7,c8,c9,c10,c11,c12,c13,c14,c15,c16,c17,c18,c19,c20,c21,c22,c23,c24,c25,c26,c27,c28,c29,c30,c31,c32,c33,c34,c35,c36⟩:=a0r (show w.heap[B]?=some (.cells (wdV d (.slice ao d.mp.zs.length zc) (.slice dl d.data.length dc)) 49 (0,0)) from (by rw [←HV.out];exact hSw));go_simp)) HC.out ?_;(try simp only [Act.put,lA,lZ,lS]))
 (refine oneD 17 rfl (fun K' hK'=>?_))
 ((obtain ⟨p1,p2,p3⟩:=S.out.a0b 0 rfl);go_simp;(refine hK' _ _ ⟨?_,a0k fun w5 hw5=>?_⟩);(exact ((S.out.setObj 2 (aI aK d.epoch)).pull (A:=[_])).head);(have S:=uH ((S.out.setObj 2 (aI aK d.epoch))));(rw [←hw5] at S);(simp only [lA,lZ,lS] at S);(have HC:Hid (w5.heap[B]?=some (.cells V 49 (0,0))):=uH (S.out.pull (A:=[_])).head);clear hw5 p1 p2 p3 hK' K';(try simp only [Act.put,lA,lZ,lS]))
 (refine tkD (i:=18) (v:=.pointer (some ⟨P,3,none⟩)) 82 rfl (fun w hSw=>(by obtain ⟨c0,c1,c2,c3,c4,c5,c6,c7,c8,c9,c10,c11,c12,c13,c14,c15,c16,c17,c18,c19,c20,c21,c22,c23,c24,c25,c26,c27,c28,c29,c30,c31,c32,c33,c34,c35,c36⟩:=a0r (show w.heap[B]?=some (.cells (wdV d (.slice ao d.mp.zs.length zc) (.slice dl d.data.length dc)) 49 (0,0)) from (by rw [←HV.out];exact hSw));go_simp)) HC.out ?_;(try simp only [Act.put,lA,lZ,lS]))
 (refine oneD 19 rfl (fun K' hK'=>?_))
 ((obtain ⟨p1,p2,p3⟩:=S.out.a0b 0 rfl);go_simp;(refine hK' _ _ ⟨?_,a0k fun w5 hw5=>?_⟩);(exact ((S.out.setObj 3 (aI aK d.index)).pull (A:=[_])).head);(have S:=uH ((S.out.setObj 3 (aI aK d.index))));(rw [←hw5] at S);(simp only [lA,lZ,lS] at S);(have HC:Hid (w5.heap[B]?=some (.cells V 49 (0,0))):=uH (S.out.pull (A:=[_])).head);clear hw5 p1 p2 p3 hK' K';(try simp only [Act.put,lA,lZ,lS]))
 (refine tkD (i:=20) (v:=.pointer (some ⟨P,4,none⟩)) 83 rfl (fun w hSw=>(by obtain ⟨c0,c1,c2,c3,c4,c5,c6,c7,c8,c9,c10,c11,c12,c13,c14,c15,c16,c17,c18,c19,c20,c21,c22,c23,c24,c25,c26,c27,c28,c29,c30,c31,c32,c33,c34,c35,c36⟩:=a0r (show w.heap[B]?=some (.cells (wdV d (.slice ao d.mp.zs.length zc) (.slice dl d.data.length dc)) 49 (0,0)) from (by rw [←HV.out];exact hSw));go_simp)) HC.out ?_;(try simp only [Act.put,lA,lZ,lS]))
 (refine oneD 21 rfl (fun K' hK'=>?_))
 ((obtain ⟨p1,p2,p3⟩:=S.out.a0b 0 rfl);go_simp;(refine hK' _ _ ⟨?_,a0k fun w5 hw5=>?_⟩);(exact ((S.out.setObj 4 (aI aK d.size)).pull (A:=[_])).head);(have S:=uH ((S.out.setObj 4 (aI aK d.size))));(rw [←hw5] at S);(simp only [lA,lZ,lS] at S);(have HC:Hid (w5.heap[B]?=some (.cells V 49 (0,0))):=uH (S.out.pull (A:=[_])).head);clear hw5 p1 p2 p3 hK' K';(try simp only [Act.put,lA,lZ,lS]))
 (refine tkD (i:=22) (v:=.pointer (some ⟨P,5,none⟩)) 84 rfl (fun w hSw=>(by obtain ⟨c0,c1,c2,c3,c4,c5,c6,c7,c8,c9,c10,c11,c12,c13,c14,c15,c16,c17,c18,c19,c20,c21,c22,c23,c24,c25,c26,c27,c28,c29,c30,c31,c32,c33,c34,c35,c36⟩:=a0r (show w.heap[B]?=some (.cells (wdV d (.slice ao d.mp.zs.length zc) (.slice dl d.data.length dc)) 49 (0,0)) from (by rw [←HV.out];exact hSw));go_simp)) HC.out ?_;(try simp only [Act.put,lA,lZ,lS]))
 (refine oneD 23 rfl (fun K' hK'=>?_))
 ((obtain ⟨p1,p2,p3⟩:=S.out.a0b 0 rfl);go_simp;(refine hK' _ _ ⟨?_,a0k fun w5 hw5=>?_⟩);(exact ((S.out.setObj 5 (aI aK d.off)).pull (A:=[_])).head);(have S:=uH ((S.out.setObj 5 (aI aK d.off))));(rw [←hw5] at S);(simp only [lA,lZ,lS] at S);(have HC:Hid (w5.heap[B]?=some (.cells V 49 (0,0))):=uH (S.out.pull (A:=[_])).head);clear hw5 p1 p2 p3 hK' K';(try simp only [Act.put,lA,lZ,lS]))
 (refine tkD (i:=24) (v:=.pointer (some ⟨P,8,none⟩)) 85 rfl (fun w hSw=>(by obtain ⟨c0,c1,c2,c3,c4,c5,c6,c7,c8,c9,c10,c11,c12,c13,c14,c15,c16,c17,c18,c19,c20,c21,c22,c23,c24,c25,c26,c27,c28,c29,c30,c31,c32,c33,c34,c35,c36⟩:=a0r (show w.heap[B]?=some (.cells (wdV d (.slice ao d.mp.zs.length zc) (.slice dl d.data.length dc)) 49 (0,0)) from (by rw [←HV.out];exact hSw));go_simp)) HC.out ?_;(try simp only [Act.put,lA,lZ,lS]))
 (refine oneD 25 rfl (fun K' hK'=>?_))
 ((obtain ⟨p1,p2,p3⟩:=S.out.a0b 0 rfl);go_simp;(refine hK' _ _ ⟨?_,a0k fun w5 hw5=>?_⟩);(exact (((S.out.setObj 8 (aS d.sf)).setObj 9 (aS d.st)).pull (A:=[_])).head);(have S:=uH (((S.out.setObj 8 (aS d.sf)).setObj 9 (aS d.st))));(rw [←hw5] at S);(simp only [lA,lZ,lS] at S);(have HC:Hid (w5.heap[B]?=some (.cells V 49 (0,0))):=uH (S.out.pull (A:=[_])).head);clear hw5 p1 p2 p3 hK' K';(try simp only [Act.put,lA,lZ,lS]))
 (refine tkD (i:=26) (v:=.pointer (some ⟨P,36,none⟩)) 86 rfl (fun w hSw=>(by obtain ⟨c0,c1,c2,c3,c4,c5,c6,c7,c8,c9,c10,c11,c12,c13,c14,c15,c16,c17,c18,c19,c20,c21,c22,c23,c24,c25,c26,c27,c28,c29,c30,c31,c32,c33,c34,c35,c36⟩:=a0r (show w.heap[B]?=some (.cells (wdV d (.slice ao d.mp.zs.length zc) (.slice dl d.data.length dc)) 49 (0,0)) from (by rw [←HV.out];exact hSw));go_simp)) HC.out ?_;(try simp only [Act.put,lA,lZ,lS]))
 (refine oneD 27 rfl (fun K' hK'=>?_))
 ((obtain ⟨p1,p2,p3⟩:=S.out.a0b 0 rfl);go_simp;(refine hK' _ _ ⟨?_,a0k fun w5 hw5=>?_⟩);(exact ((S.out.setObj 36 (.slice dl d.data.length dc)).pull (A:=[_])).head);(have S:=uH ((S.out.setObj 36 (.slice dl d.data.length dc))));(rw [←hw5] at S);(simp only [lA,lZ,lS] at S);(have HC:Hid (w5.heap[B]?=some (.cells V 49 (0,0))):=uH (S.out.pull (A:=[_])).head);clear hw5 p1 p2 p3 hK' K';(try simp only [Act.put,lA,lZ,lS]))
 ((refine wpAnyH_done (by kernel_rfl) ?_ _);(refine NoPanic.normal ?_);(go_wp2_with fail))
 (have hC:=HC2.out);clear HC2;subst hC
 clear HC
 obtain ⟨c0,c1,c2,c3,c4,c5,c6,c7,c8,c9,c10,c11,c12,c13,c14,c15,c16,c17,c18,c19,c20,c21,c22,c23,c24,c25,c26,c27,c28,c29,c30,c31,c32,c33,c34,c35,c36⟩:=a0r (show w5.heap[B]?=some (.cells (wdV d (.slice ao d.mp.zs.length zc) (.slice dl d.data.length dc)) 49 (0,0)) from (by rw [←HV.out];exact (S.out.pull (A:=[_])).head))
 have sB:=(S.out.a0b 1 rfl).1
 clear c0 c3 c6 c7 c10 c11 c12 c13 c14 c15 c16 c17 c18 c19 c20 c21 c22 c23 c24 c25 c26 c27 c28 c29 c30 c31 c32 c33 c34 c35
 have e1:okD d=(decide (0<d.zone∧0<d.epoch∧0<d.size∧d.size≤524288∧0<d.data.length∧(d.data.length:Int)≤512∧d.off≤d.size - (d.data.length:Int))&&isB d.sf d.st):=by simp only [okD,hk,Int.reduceEq,if_false,if_true];congr 2;simp only [eq_iff_iff,ne_eq,←List.length_eq_zero_iff];omega
 have hrr:=Hr.out
 go_wp2_with fail
 all_goals try ((exact hT _ (xW d ({ pl0 with zone:=d.zone,epoch:=d.epoch,index:=d.index,size:=d.size,off:=d.off,sf:=d.sf,st:=d.st }) (mp0) (d.data)) none dl 0 dc (false) _ _ _ _ _ _ _ _ _ _ _ _ _ _ _ _ _ _ _ _ _ _ _ _ _ _ _ _ _ _ _ _ _ _ _ _ _ _ _ _ _ _ _ _ _ _ _ _ _ _ _ _ _ _ _ _ _ _ _ _ _ _ _ _ _ _ _ _ _ _ _ _ _ _ _ _ _ _ _ _ _ _ _ _ _ _ _ _ _ _ _ _ _ _ _ _ _ _ _ _ _ _ _ _ _ _ _ _ _ _ _ _ _ _ _ _ _ _ _ _ _ _ _ _ _ _ _ _ _ _ _ _ _ _ _ _ _ _ _ _ _ _ _ _ _ _ _ _ _ _ _ _ _ _ _ _ _ _ _ _ _ _ _ _ _ _ _ _ _ _ _ _ _ _ _ _ _ _ _ _ _ _ _ _ _ _ _ _ _ _ _ _ _ _ _ _ _ S.out (f0l _) Hbd.out (Nat.zero_le _) ((hrr.trans (by rw [e1,decide_eq_false (by omega)];rfl)))))
 refine (d0q _ _ _).mono ?_
 rintro e w6 ⟨rfl,hb6⟩
 have S:=uH (S.out.grow hb6)
 have hc:Hid (0<d.zone∧0<d.epoch∧0<d.size∧d.size≤524288∧0<d.data.length∧(d.data.length:Int)≤512∧d.off≤d.size - (d.data.length:Int)):=uH (by refine ⟨?_,?_,?_,?_,?_,?_,?_⟩<;>omega)
 clear hb6 sB c1 c2 c4 c5 c8 c9 c36
 go_wp2_with fail
 (exact hT _ (xW d ({ pl0 with zone:=d.zone,epoch:=d.epoch,index:=d.index,size:=d.size,off:=d.off,sf:=d.sf,st:=d.st }) (mp0) (d.data)) none dl 0 dc (isB d.sf d.st) _ _ _ _ _ _ _ _ _ _ _ _ _ _ _ _ _ _ _ _ _ _ _ _ _ _ _ _ _ _ _ _ _ _ _ _ _ _ _ _ _ _ _ _ _ _ _ _ _ _ _ _ _ _ _ _ _ _ _ _ _ _ _ _ _ _ _ _ _ _ _ _ _ _ _ _ _ _ _ _ _ _ _ _ _ _ _ _ _ _ _ _ _ _ _ _ _ _ _ _ _ _ _ _ _ _ _ _ _ _ _ _ _ _ _ _ _ _ _ _ _ _ _ _ _ _ _ _ _ _ _ _ _ _ _ _ _ _ _ _ _ _ _ _ _ _ _ _ _ _ _ _ _ _ _ _ _ _ _ _ _ _ _ _ _ _ _ _ _ _ _ _ _ _ _ _ _ _ _ _ _ _ _ _ _ _ _ _ _ _ _ _ _ _ _ _ _ S.out (f0l _) Hbd.out (Nat.zero_le _) ((hrr.trans (by rw [e1,decide_eq_true hc.out];rfl))))
end Go.Proofs.YtogamdaomdoapaaGreat