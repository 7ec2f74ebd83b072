/- Texts put together: WQ6, WQ7. -/
import Derived.Test.YtogamdaomdoapaaGreatGa34
namespace Go.Proofs.YtogamdaomdoapaaGreat
open Go.Value renaming int→aI
open Go.IntKind renaming i64→aK
open List renaming setIfInBounds_toArray→lA,set_cons_zero→lZ,set_cons_succ→lS
open Go.Lib renaming hid→uH
set_option maxRecDepth 20000
open Go.RowKit
set_option maxHeartbeats 4000000 in
theorem may_q8 {c:Code} (hb:(Tryz.f23).body=some c) {d:Wd} {ms ds:Value} {V:Array Value} (hV:V=wdV d ms ds) (ao dl:Option Addr) (zc dc:Nat) (hms:ms=.slice ao d.mp.zs.length zc) (hds:ds=.slice dl d.data.length dc) (w wa:World) (_hz:O.ZsAt w ao d.mp.zs) (_hbd:BAt w dl d.data) (_hl:d.mp.zs.length≤1000) (B P:Nat) (hk:d.kind=8)
 (H:Hid (z0j d w wa B P V)) (r:Bool) (hr:r=docW d)
 {K2:Act→World→Prop} (hT:e0h K2 w V B P r d):z0k c K2 V B P w wa r:=by
 unfold z0j at H
 unfold z0k
 intros
 have HV:=uH hV
 clear hV
 rw [e0w] at hr
 have e2:a0v d={ pl0 with zone:=d.zone,epoch:=d.epoch,index:=d.index,off:=d.off }:=by simp [a0v,hk]
 have e3:mapW d=mp0:=by simp [mapW,hasM,hk]
 have e4:e0p d=[]:=by simp [e0p,hasD,hk]
 rw [e2,e3,e4] at hr
 clear e2 e3 e4
 have Hr:=uH hr
 clear hr
 subst hms hds
 cases hb
 simp only [sndC,fstC]
 have S:=H
 clear H
 have s0:=(S.out.a0b 1 rfl).1
 obtain ⟨c0,c1,c2,c3,c4,c5,c6,c7,c8,c9,c10,c11,c12,c13,c14,c15,c16,c17,c18,c19,c20,c21,c22,c23,c24,c25,c26,c27,c28,c29,c30,c31,c32,c33,c34,c35,c36⟩:=a0r (show wa.heap[B]?=some (.cells (wdV d (.slice ao d.mp.zs.length zc) (.slice dl d.data.length dc)) 49 (0,0)) from (by rw [←HV.out];exact (S.out.pull (A:=[_])).head))
 rw [hk] at c0
 clear c1 c2 c3 c4 c5 c6 c7 c8 c9 c10 c11 c12 c13 c14 c15 c16 c17 c18 c19 c20 c21 c22 c23 c24 c25 c26 c27 c28 c29 c30 c31 c32 c33 c34 c35 c36
 refine a0a fun C HC=>?_
 go_wp2_with fail
 (have hC:=HC.out);clear HC;subst hC
 clear c0 s0
 refine wp_block ?_
 iterate 7 ((refine a0a fun C HC=>?_);(go_wp2_with fail);(have hC:=HC.out);clear HC;subst hC;(refine wp_cond_false rfl ?_))
 ((refine a0a fun C HC=>?_);(go_wp2_with fail);(have hC:=HC.out);clear HC;subst hC;(refine wp_cond_true rfl ?_))
 refine a0a fun C2 HC2=>?_
 refine wp_seq ?_
 ((obtain ⟨wd,hwd⟩:∃ wd,wd=wa.drew:=⟨_,rfl⟩);(have S:=uH (S.out.grow (w':=wd) (by rw [hwd];exact (Below.refl _ _).drew)));(have HC:Hid (wd.heap[B]?=some (.cells V 49 (0,0))):=uH (S.out.pull (A:=[_])).head);(refine wp_region_noPanic ?_);(refine wp_region_held (S:=(fun W:World=>W.heap[B]?=some (.cells V 49 (0,0)))) (by kernel_rfl) ?_);change wpAnyH _ _ _ _ _ _ _ _ (World.drew _);(rw [←hwd]);clear hwd)
 (refine tkD (i:=0) (v:=.pointer (some ⟨B,1,none⟩)) 135 rfl (fun w hSw=>(by obtain ⟨c0,c1,c2,c3,c4,c5,c6,c7,c8,c9,c10,c11,c12,c13,c14,c15,c16,c17,c18,c19,c20,c21,c22,c23,c24,c25,c26,c27,c28,c29,c30,c31,c32,c33,c34,c35,c36⟩:=a0r (show w.heap[B]?=some (.cells (wdV d (.slice ao d.mp.zs.length zc) (.slice dl d.data.length dc)) 49 (0,0)) from (by rw [←HV.out];exact hSw));go_simp)) HC.out ?_;(try simp only [Act.put,lA,lZ,lS]))
 (refine tkD (i:=1) (v:=aI aK d.zone) 136 rfl (fun w hSw=>(by obtain ⟨c0,c1,c2,c3,c4,c5,c6,c7,c8,c9,c10,c11,c12,c13,c14,c15,c16,c17,c18,c19,c20,c21,c22,c23,c24,c25,c26,c27,c28,c29,c30,c31,c32,c33,c34,c35,c36⟩:=a0r (show w.heap[B]?=some (.cells (wdV d (.slice ao d.mp.zs.length zc) (.slice dl d.data.length dc)) 49 (0,0)) from (by rw [←HV.out];exact hSw));go_simp)) HC.out ?_;(try simp only [Act.put,lA,lZ,lS]))
 (refine tkD (i:=2) (v:=.pointer (some ⟨B,2,none⟩)) 137 rfl (fun w hSw=>(by obtain ⟨c0,c1,c2,c3,c4,c5,c6,c7,c8,c9,c10,c11,c12,c13,c14,c15,c16,c17,c18,c19,c20,c21,c22,c23,c24,c25,c26,c27,c28,c29,c30,c31,c32,c33,c34,c35,c36⟩:=a0r (show w.heap[B]?=some (.cells (wdV d (.slice ao d.mp.zs.length zc) (.slice dl d.data.length dc)) 49 (0,0)) from (by rw [←HV.out];exact hSw));go_simp)) HC.out ?_;(try simp only [Act.put,lA,lZ,lS]))
 (refine tkD (i:=3) (v:=aI aK d.epoch) 138 rfl (fun w hSw=>(by obtain ⟨c0,c1,c2,c3,c4,c5,c6,c7,c8,c9,c10,c11,c12,c13,c14,c15,c16,c17,c18,c19,c20,c21,c22,c23,c24,c25,c26,c27,c28,c29,c30,c31,c32,c33,c34,c35,c36⟩:=a0r (show w.heap[B]?=some (.cells (wdV d (.slice ao d.mp.zs.length zc) (.slice dl d.data.length dc)) 49 (0,0)) from (by rw [←HV.out];exact hSw));go_simp)) HC.out ?_;(try simp only [Act.put,lA,lZ,lS]))
 (refine tkD (i:=4) (v:=.pointer (some ⟨B,3,none⟩)) 139 rfl (fun w hSw=>(by obtain ⟨c0,c1,c2,c3,c4,c5,c6,c7,c8,c9,c10,c11,c12,c13,c14,c15,c16,c17,c18,c19,c20,c21,c22,c23,c24,c25,c26,c27,c28,c29,c30,c31,c32,c33,c34,c35,c36⟩:=a0r (show w.heap[B]?=some (.cells (wdV d (.slice ao d.mp.zs.length zc) (.slice dl d.data.length dc)) 49 (0,0)) from (by rw [←HV.out];exact hSw));go_simp)) HC.out ?_;(try simp only [Act.put,lA,lZ,lS]))
 (refine tkD (i:=5) (v:=aI aK d.index) 140 rfl (fun w hSw=>(by obtain ⟨c0,c1,c2,c3,c4,c5,c6,c7,c8,c9,c10,c11,c12,c13,c14,c15,c16,c17,c18,c19,c20,c21,c22,c23,c24,c25,c26,c27,c28,c29,c30,c31,c32,c33,c34,c35,c36⟩:=a0r (show w.heap[B]?=some (.cells (wdV d (.slice ao d.mp.zs.length zc) (.slice dl d.data.length dc)) 49 (0,0)) from (by rw [←HV.out];exact hSw));go_simp)) HC.out ?_;(try simp only [Act.put,lA,lZ,lS]))
 (refine tkD (i:=6) (v:=.pointer (some ⟨B,5,none⟩)) 141 rfl (fun w hSw=>(by obtain ⟨c0,c1,c2,c3,c4,c5,c6,c7,c8,c9,c10,c11,c12,c13,c14,c15,c16,c17,c18,c19,c20,c21,c22,c23,c24,c25,c26,c27,c28,c29,c30,c31,c32,c33,c34,c35,c36⟩:=a0r (show w.heap[B]?=some (.cells (wdV d (.slice ao d.mp.zs.length zc) (.slice dl d.data.length dc)) 49 (0,0)) from (by rw [←HV.out];exact hSw));go_simp)) HC.out ?_;(try simp only [Act.put,lA,lZ,lS]))
 (refine tkD (i:=7) (v:=aI aK d.off) 142 rfl (fun w hSw=>(by obtain ⟨c0,c1,c2,c3,c4,c5,c6,c7,c8,c9,c10,c11,c12,c13,c14,c15,c16,c17,c18,c19,c20,c21,c22,c23,c24,c25,c26,c27,c28,c29,c30,c31,c32,c33,c34,c35,c36⟩:=a0r (show w.heap[B]?=some (.cells (wdV d (.slice ao d.mp.zs.length zc) (.slice dl d.data.length dc)) 49 (0,0)) from (by rw [←HV.out];exact hSw));go_simp)) HC.out ?_;(try simp only [Act.put,lA,lZ,lS]))
 (refine tkD (i:=8) (v:=.pointer (some ⟨P,1,none⟩)) 143 rfl (fun w hSw=>(by obtain ⟨c0,c1,c2,c3,c4,c5,c6,c7,c8,c9,c10,c11,c12,c13,c14,c15,c16,c17,c18,c19,c20,c21,c22,c23,c24,c25,c26,c27,c28,c29,c30,c31,c32,c33,c34,c35,c36⟩:=a0r (show w.heap[B]?=some (.cells (wdV d (.slice ao d.mp.zs.length zc) (.slice dl d.data.length dc)) 49 (0,0)) from (by rw [←HV.out];exact hSw));go_simp)) HC.out ?_;(try simp only [Act.put,lA,lZ,lS]))
 (refine oneD 9 rfl (fun K' hK'=>?_))
 ((obtain ⟨p1,p2,p3⟩:=S.out.a0b 0 rfl);go_simp;(refine hK' _ _ ⟨?_,a0k fun w5 hw5=>?_⟩);(exact ((S.out.setObj 1 (aI aK d.zone)).pull (A:=[_])).head);(have S:=uH ((S.out.setObj 1 (aI aK d.zone))));(rw [←hw5] at S);(simp only [lA,lZ,lS] at S);(have HC:Hid (w5.heap[B]?=some (.cells V 49 (0,0))):=uH (S.out.pull (A:=[_])).head);clear hw5 p1 p2 p3 hK' K';(try simp only [Act.put,lA,lZ,lS]))
 (refine tkD (i:=10) (v:=.pointer (some ⟨P,2,none⟩)) 144 rfl (fun w hSw=>(by obtain ⟨c0,c1,c2,c3,c4,c5,c6,c7,c8,c9,c10,c11,c12,c13,c14,c15,c16,c17,c18,c19,c20,c21,c22,c23,c24,c25,c26,c27,c28,c29,c30,c31,c32,c33,c34,c35,c36⟩:=a0r (show w.heap[B]?=some (.cells (wdV d (.slice ao d.mp.zs.length zc) (.slice dl d.data.length dc)) 49 (0,0)) from (by rw [←HV.out];exact hSw));go_simp)) HC.out ?_;(try simp only [Act.put,lA,lZ,lS]))
 (refine oneD 11 rfl (fun K' hK'=>?_))
 ((obtain ⟨p1,p2,p3⟩:=S.out.a0b 0 rfl);go_simp;(refine hK' _ _ ⟨?_,a0k fun w5 hw5=>?_⟩);(exact ((S.out.setObj 2 (aI aK d.epoch)).pull (A:=[_])).head);(have S:=uH ((S.out.setObj 2 (aI aK d.epoch))));(rw [←hw5] at S);(simp only [lA,lZ,lS] at S);(have HC:Hid (w5.heap[B]?=some (.cells V 49 (0,0))):=uH (S.out.pull (A:=[_])).head);clear hw5 p1 p2 p3 hK' K';(try simp only [Act.put,lA,lZ,lS]))
 (refine tkD (i:=12) (v:=.pointer (some ⟨P,3,none⟩)) 145 rfl (fun w hSw=>(by obtain ⟨c0,c1,c2,c3,c4,c5,c6,c7,c8,c9,c10,c11,c12,c13,c14,c15,c16,c17,c18,c19,c20,c21,c22,c23,c24,c25,c26,c27,c28,c29,c30,c31,c32,c33,c34,c35,c36⟩:=a0r (show w.heap[B]?=some (.cells (wdV d (.slice ao d.mp.zs.length zc) (.slice dl d.data.length dc)) 49 (0,0)) from (by rw [←HV.out];exact hSw));go_simp)) HC.out ?_;(try simp only [Act.put,lA,lZ,lS]))
 (refine oneD 13 rfl (fun K' hK'=>?_))
 ((obtain ⟨p1,p2,p3⟩:=S.out.a0b 0 rfl);go_simp;(refine hK' _ _ ⟨?_,a0k fun w5 hw5=>?_⟩);(exact ((S.out.setObj 3 (aI aK d.index)).pull (A:=[_])).head);(have S:=uH ((S.out.setObj 3 (aI aK d.index))));(rw [←hw5] at S);(simp only [lA,lZ,lS] at S);(have HC:Hid (w5.heap[B]?=some (.cells V 49 (0,0))):=uH (S.out.pull (A:=[_])).head);clear hw5 p1 p2 p3 hK' K';(try simp only [Act.put,lA,lZ,lS]))
 (refine tkD (i:=14) (v:=.pointer (some ⟨P,5,none⟩)) 146 rfl (fun w hSw=>(by obtain ⟨c0,c1,c2,c3,c4,c5,c6,c7,c8,c9,c10,c11,c12,c13,c14,c15,c16,c17,c18,c19,c20,c21,c22,c23,c24,c25,c26,c27,c28,c29,c30,c31,c32,c33,c34,c35,c36⟩:=a0r (show w.heap[B]?=some (.cells (wdV d (.slice ao d.mp.zs.length zc) (.slice dl d.data.length dc)) 49 (0,0)) from (by rw [←HV.out];exact hSw));go_simp)) HC.out ?_;(try simp only [Act.put,lA,lZ,lS]))
 (refine oneD 15 rfl (fun K' hK'=>?_))
 ((obtain ⟨p1,p2,p3⟩:=S.out.a0b 0 rfl);go_simp;(refine hK' _ _ ⟨?_,a0k fun w5 hw5=>?_⟩);(exact ((S.out.setObj 5 (aI aK d.off)).pull (A:=[_])).head);(have S:=uH ((S.out.setObj 5 (aI aK d.off))));(rw [←hw5] at S);(simp only [lA,lZ,lS] at S);(have HC:Hid (w5.heap[B]?=some (.cells V 49 (0,0))):=uH (S.out.pull (A:=[_])).head);clear hw5 p1 p2 p3 hK' K';(try simp only [Act.put,lA,lZ,lS]))
 ((refine wpAnyH_done (by kernel_rfl) ?_ _);(refine NoPanic.normal ?_);(go_wp2_with fail))
 (have hC:=HC2.out);clear HC2;subst hC
 clear HC
 obtain ⟨c0,c1,c2,c3,c4,c5,c6,c7,c8,c9,c10,c11,c12,c13,c14,c15,c16,c17,c18,c19,c20,c21,c22,c23,c24,c25,c26,c27,c28,c29,c30,c31,c32,c33,c34,c35,c36⟩:=a0r (show w5.heap[B]?=some (.cells (wdV d (.slice ao d.mp.zs.length zc) (.slice dl d.data.length dc)) 49 (0,0)) from (by rw [←HV.out];exact (S.out.pull (A:=[_])).head))
 have sB:=(S.out.a0b 1 rfl).1
 clear c0 c3 c4 c5 c6 c7 c8 c9 c10 c11 c12 c13 c14 c15 c16 c17 c18 c19 c20 c21 c22 c23 c24 c25 c26 c27 c28 c29 c30 c31 c32 c33 c34 c35 c36
 have e1:okD d=decide (0<d.zone∧0<d.epoch):=by simp only [okD,hk,Int.reduceEq,if_false,if_true]
 have hrr:=Hr.out
 go_wp2_with fail
 all_goals first | (exact hT _ (xW d ({ pl0 with zone:=d.zone,epoch:=d.epoch,index:=d.index,off:=d.off }) (mp0) ([])) none none 0 0 (false) _ _ _ _ _ _ _ _ _ _ _ _ _ _ _ _ _ _ _ _ _ _ _ _ _ _ _ _ _ _ _ _ _ _ _ _ _ _ _ _ _ _ _ _ _ _ _ _ _ _ _ _ _ _ _ _ _ _ _ _ _ _ _ _ _ _ _ _ _ _ _ _ _ _ _ _ _ _ _ _ _ _ _ _ _ _ _ _ _ _ _ _ _ _ _ _ _ _ _ _ _ _ _ _ _ _ _ _ _ _ _ _ _ _ _ _ _ _ _ _ _ _ _ _ _ _ _ _ _ _ _ _ _ _ _ _ _ _ _ _ _ _ _ _ _ _ _ _ _ _ _ _ _ _ _ _ _ _ _ _ _ _ _ _ _ _ _ _ _ _ _ _ _ _ _ _ _ _ _ _ _ _ _ _ _ _ _ _ _ _ _ _ _ _ _ _ _ S.out (f0l _) (i0r _) (Nat.zero_le _) ((hrr.trans (by rw [e1,decide_eq_false (by omega)])))) | (exact hT _ (xW d ({ pl0 with zone:=d.zone,epoch:=d.epoch,index:=d.index,off:=d.off }) (mp0) ([])) none none 0 0 (decide (0<d.epoch)) _ _ _ _ _ _ _ _ _ _ _ _ _ _ _ _ _ _ _ _ _ _ _ _ _ _ _ _ _ _ _ _ _ _ _ _ _ _ _ _ _ _ _ _ _ _ _ _ _ _ _ _ _ _ _ _ _ _ _ _ _ _ _ _ _ _ _ _ _ _ _ _ _ _ _ _ _ _ _ _ _ _ _ _ _ _ _ _ _ _ _ _ _ _ _ _ _ _ _ _ _ _ _ _ _ _ _ _ _ _ _ _ _ _ _ _ _ _ _ _ _ _ _ _ _ _ _ _ _ _ _ _ _ _ _ _ _ _ _ _ _ _ _ _ _ _ _ _ _ _ _ _ _ _ _ _ _ _ _ _ _ _ _ _ _ _ _ _ _ _ _ _ _ _ _ _ _ _ _ _ _ _ _ _ _ _ _ _ _ _ _ _ _ _ _ _ _ S.out (f0l _) (i0r _) (Nat.zero_le _) ((hrr.trans (by rw [e1,show decide (0<d.zone∧0<d.epoch)=decide (0<d.epoch) from (by congr 1;simp only [eq_iff_iff];omega)]))))
set_option maxHeartbeats 4000000 in
theorem may_q10 {c:Code} (hb:(Tryz.f23).body=some c) {d:Wd} {ms ds:Value} {V:Array Value} (hV:V=wdV d ms ds) (ao dl:Option Addr) (zc dc:Nat) (hms:ms=.slice ao d.mp.zs.length zc) (hds:ds=.slice dl d.data.length dc) (w wa:World) (_hz:O.ZsAt w ao d.mp.zs) (_hbd:BAt w dl d.data) (_hl:d.mp.zs.length≤1000) (B P:Nat) (hk:d.kind=10)
 (H:Hid (z0j d w wa B P V)) (r:Bool) (hr:r=docW d)
 {K2:Act→World→Prop} (hT:e0h K2 w V B P r d):z0k c K2 V B P w wa r:=by
 unfold z0j at H
 unfold z0k
 intros
 have HV:=uH hV
 clear hV
 rw [e0w] at hr
 have e2:a0v d={ pl0 with zone:=d.zone,epoch:=d.epoch,index:=d.index }:=by simp [a0v,hk]
 have e3:mapW d=mp0:=by simp [mapW,hasM,hk]
 have e4:e0p d=[]:=by simp [e0p,hasD,hk]
 rw [e2,e3,e4] at hr
 clear e2 e3 e4
 have Hr:=uH hr
 clear hr
 subst hms hds
 cases hb
 simp only [sndC,fstC]
 have S:=H
 clear H
 have s0:=(S.out.a0b 1 rfl).1
 obtain ⟨c0,c1,c2,c3,c4,c5,c6,c7,c8,c9,c10,c11,c12,c13,c14,c15,c16,c17,c18,c19,c20,c21,c22,c23,c24,c25,c26,c27,c28,c29,c30,c31,c32,c33,c34,c35,c36⟩:=a0r (show wa.heap[B]?=some (.cells (wdV d (.slice ao d.mp.zs.length zc) (.slice dl d.data.length dc)) 49 (0,0)) from (by rw [←HV.out];exact (S.out.pull (A:=[_])).head))
 rw [hk] at c0
 clear c1 c2 c3 c4 c5 c6 c7 c8 c9 c10 c11 c12 c13 c14 c15 c16 c17 c18 c19 c20 c21 c22 c23 c24 c25 c26 c27 c28 c29 c30 c31 c32 c33 c34 c35 c36
 refine a0a fun C HC=>?_
 go_wp2_with fail
 (have hC:=HC.out);clear HC;subst hC
 clear c0 s0
 refine wp_block ?_
 iterate 9 ((refine a0a fun C HC=>?_);(go_wp2_with fail);(have hC:=HC.out);clear HC;subst hC;(refine wp_cond_false rfl ?_))
 ((refine a0a fun C HC=>?_);(go_wp2_with fail);(have hC:=HC.out);clear HC;subst hC;(refine wp_cond_true rfl ?_))
 refine a0a fun C2 HC2=>?_
 refine wp_seq ?_
 ((obtain ⟨wd,hwd⟩:∃ wd,wd=wa.drew:=⟨_,rfl⟩);(have S:=uH (S.out.grow (w':=wd) (by rw [hwd];exact (Below.refl _ _).drew)));(have HC:Hid (wd.heap[B]?=some (.cells V 49 (0,0))):=uH (S.out.pull (A:=[_])).head);(refine wp_region_noPanic ?_);(refine wp_region_held (S:=(fun W:World=>W.heap[B]?=some (.cells V 49 (0,0)))) (by kernel_rfl) ?_);change wpAnyH _ _ _ _ _ _ _ _ (World.drew _);(rw [←hwd]);clear hwd)
 (refine tkD (i:=0) (v:=.pointer (some ⟨B,1,none⟩)) 185 rfl (fun w hSw=>(by obtain ⟨c0,c1,c2,c3,c4,c5,c6,c7,c8,c9,c10,c11,c12,c13,c14,c15,c16,c17,c18,c19,c20,c21,c22,c23,c24,c25,c26,c27,c28,c29,c30,c31,c32,c33,c34,c35,c36⟩:=a0r (show w.heap[B]?=some (.cells (wdV d (.slice ao d.mp.zs.length zc) (.slice dl d.data.length dc)) 49 (0,0)) from (by rw [←HV.out];exact hSw));go_simp)) HC.out ?_;(try simp only [Act.put,lA,lZ,lS]))
 (refine tkD (i:=1) (v:=aI aK d.zone) 186 rfl (fun w hSw=>(by obtain ⟨c0,c1,c2,c3,c4,c5,c6,c7,c8,c9,c10,c11,c12,c13,c14,c15,c16,c17,c18,c19,c20,c21,c22,c23,c24,c25,c26,c27,c28,c29,c30,c31,c32,c33,c34,c35,c36⟩:=a0r (show w.heap[B]?=some (.cells (wdV d (.slice ao d.mp.zs.length zc) (.slice dl d.data.length dc)) 49 (0,0)) from (by rw [←HV.out];exact hSw));go_simp)) HC.out ?_;(try simp only [Act.put,lA,lZ,lS]))
 (refine tkD (i:=2) (v:=.pointer (some ⟨B,2,none⟩)) 187 rfl (fun w hSw=>(by obtain ⟨c0,c1,c2,c3,c4,c5,c6,c7,c8,c9,c10,c11,c12,c13,c14,c15,c16,c17,c18,c19,c20,c21,c22,c23,c24,c25,c26,c27,c28,c29,c30,c31,c32,c33,c34,c35,c36⟩:=a0r (show w.heap[B]?=some (.cells (wdV d (.slice ao d.mp.zs.length zc) (.slice dl d.data.length dc)) 49 (0,0)) from (by rw [←HV.out];exact hSw));go_simp)) HC.out ?_;(try simp only [Act.put,lA,lZ,lS]))
 (refine tkD (i:=3) (v:=aI aK d.epoch) 188 rfl (fun w hSw=>(by obtain ⟨c0,c1,c2,c3,c4,c5,c6,c7,c8,c9,c10,c11,c12,c13,c14,c15,c16,c17,c18,c19,c20,c21,c22,c23,c24,c25,c26,c27,c28,c29,c30,c31,c32,c33,c34,c35,c36⟩:=a0r (show w.heap[B]?=some (.cells (wdV d (.slice ao d.mp.zs.length zc) (.slice dl d.data.length dc)) 49 (0,0)) from (by rw [←HV.out];exact hSw));go_simp)) HC.out ?_;(try simp only [Act.put,lA,lZ,lS]))
 (refine tkD (i:=4) (v:=.pointer (some ⟨B,3,none⟩)) 189 rfl (fun w hSw=>(by obtain ⟨c0,c1,c2,c3,c4,c5,c6,c7,c8,c9,c10,c11,c12,c13,c14,c15,c16,c17,c18,c19,c20,c21,c22,c23,c24,c25,c26,c27,c28,c29,c30,c31,c32,c33,c34,c35,c36⟩:=a0r (show w.heap[B]?=some (.cells (wdV d (.slice ao d.mp.zs.length zc) (.slice dl d.data.length dc)) 49 (0,0)) from (by rw [←HV.out];exact hSw));go_simp)) HC.out ?_;(try simp only [Act.put,lA,lZ,lS]))
 (refine tkD (i:=5) (v:=aI aK d.index) 190 rfl (fun w hSw=>(by obtain ⟨c0,c1,c2,c3,c4,c5,c6,c7,c8,c9,c10,c11,c12,c13,c14,c15,c16,c17,c18,c19,c20,c21,c22,c23,c24,c25,c26,c27,c28,c29,c30,c31,c32,c33,c34,c35,c36⟩:=a0r (show w.heap[B]?=some (.cells (wdV d (.slice ao d.mp.zs.length zc) (.slice dl d.data.length dc)) 49 (0,0)) from (by rw [←HV.out];exact hSw));go_simp)) HC.out ?_;(try simp only [Act.put,lA,lZ,lS]))
 (refine tkD (i:=6) (v:=.pointer (some ⟨P,1,none⟩)) 191 rfl (fun w hSw=>(by obtain ⟨c0,c1,c2,c3,c4,c5,c6,c7,c8,c9,c10,c11,c12,c13,c14,c15,c16,c17,c18,c19,c20,c21,c22,c23,c24,c25,c26,c27,c28,c29,c30,c31,c32,c33,c34,c35,c36⟩:=a0r (show w.heap[B]?=some (.cells (wdV d (.slice ao d.mp.zs.length zc) (.slice dl d.data.length dc)) 49 (0,0)) from (by rw [←HV.out];exact hSw));go_simp)) HC.out ?_;(try simp only [Act.put,lA,lZ,lS]))
 (refine oneD 7 rfl (fun K' hK'=>?_))
 ((obtain ⟨p1,p2,p3⟩:=S.out.a0b 0 rfl);go_simp;(refine hK' _ _ ⟨?_,a0k fun w5 hw5=>?_⟩);(exact ((S.out.setObj 1 (aI aK d.zone)).pull (A:=[_])).head);(have S:=uH ((S.out.setObj 1 (aI aK d.zone))));(rw [←hw5] at S);(simp only [lA,lZ,lS] at S);(have HC:Hid (w5.heap[B]?=some (.cells V 49 (0,0))):=uH (S.out.pull (A:=[_])).head);clear hw5 p1 p2 p3 hK' K';(try simp only [Act.put,lA,lZ,lS]))
 (refine tkD (i:=8) (v:=.pointer (some ⟨P,2,none⟩)) 192 rfl (fun w hSw=>(by obtain ⟨c0,c1,c2,c3,c4,c5,c6,c7,c8,c9,c10,c11,c12,c13,c14,c15,c16,c17,c18,c19,c20,c21,c22,c23,c24,c25,c26,c27,c28,c29,c30,c31,c32,c33,c34,c35,c36⟩:=a0r (show w.heap[B]?=some (.cells (wdV d (.slice ao d.mp.zs.length zc) (.slice dl d.data.length dc)) 49 (0,0)) from (by rw [←HV.out];exact hSw));go_simp)) HC.out ?_;(try simp only [Act.put,lA,lZ,lS]))
 (refine oneD 9 rfl (fun K' hK'=>?_))
 ((obtain ⟨p1,p2,p3⟩:=S.out.a0b 0 rfl);go_simp;(refine hK' _ _ ⟨?_,a0k fun w5 hw5=>?_⟩);(exact ((S.out.setObj 2 (aI aK d.epoch)).pull (A:=[_])).head);(have S:=uH ((S.out.setObj 2 (aI aK d.epoch))));(rw [←hw5] at S);(simp only [lA,lZ,lS] at S);(have HC:Hid (w5.heap[B]?=some (.cells V 49 (0,0))):=uH (S.out.pull (A:=[_])).head);clear hw5 p1 p2 p3 hK' K';(try simp only [Act.put,lA,lZ,lS]))
 (refine tkD (i:=10) (v:=.pointer (some ⟨P,3,none⟩)) 193 rfl (fun w hSw=>(by obtain ⟨c0,c1,c2,c3,c4,c5,c6,c7,c8,c9,c10,c11,c12,c13,c14,c15,c16,c17,c18,c19,c20,c21,c22,c23,c24,c25,c26,c27,c28,c29,c30,c31,c32,c33,c34,c35,c36⟩:=a0r (show w.heap[B]?=some (.cells (wdV d (.slice ao d.mp.zs.length zc) (.slice dl d.data.length dc)) 49 (0,0)) from (by rw [←HV.out];exact hSw));go_simp)) HC.out ?_;(try simp only [Act.put,lA,lZ,lS]))
 (refine oneD 11 rfl (fun K' hK'=>?_))
 ((obtain ⟨p1,p2,p3⟩:=S.out.a0b 0 rfl);go_simp;(refine hK' _ _ ⟨?_,a0k fun w5 hw5=>?_⟩);(exact ((S.out.setObj 3 (aI aK d.index)).pull (A:=[_])).head);(have S:=uH ((S.out.setObj 3 (aI aK d.index))));(rw [←hw5] at S);(simp only [lA,lZ,lS] at S);(have HC:Hid (w5.heap[B]?=some (.cells V 49 (0,0))):=uH (S.out.pull (A:=[_])).head);clear hw5 p1 p2 p3 hK' K';(try simp only [Act.put,lA,lZ,lS]))
 ((refine wpAnyH_done (by kernel_rfl) ?_ _);(refine NoPanic.normal ?_);(go_wp2_with fail))
 (have hC:=HC2.out);clear HC2;subst hC
 clear HC
 obtain ⟨c0,c1,c2,c3,c4,c5,c6,c7,c8,c9,c10,c11,c12,c13,c14,c15,c16,c17,c18,c19,c20,c21,c22,c23,c24,c25,c26,c27,c28,c29,c30,c31,c32,c33,c34,c35,c36⟩:=a0r (show w5.heap[B]?=some (.cells (wdV d (.slice ao d.mp.zs.length zc) (.slice dl d.data.length dc)) 49 (0,0)) from (by rw [←HV.out];exact (S.out.pull (A:=[_])).head))
 have sB:=(S.out.a0b 1 rfl).1
 clear c0 c3 c4 c5 c6 c7 c8 c9 c10 c11 c12 c13 c14 c15 c16 c17 c18 c19 c20 c21 c22 c23 c24 c25 c26 c27 c28 c29 c30 c31 c32 c33 c34 c35 c36
 have e1:okD d=decide (0<d.zone∧0<d.epoch):=by simp only [okD,hk,Int.reduceEq,if_false,if_true]
 have hrr:=Hr.out
 go_wp2_with fail
 all_goals first | (exact hT _ (xW d ({ pl0 with zone:=d.zone,epoch:=d.epoch,index:=d.index }) (mp0) ([])) none none 0 0 (false) _ _ _ _ _ _ _ _ _ _ _ _ _ _ _ _ _ _ _ _ _ _ _ _ _ _ _ _ _ _ _ _ _ _ _ _ _ _ _ _ _ _ _ _ _ _ _ _ _ _ _ _ _ _ _ _ _ _ _ _ _ _ _ _ _ _ _ _ _ _ _ _ _ _ _ _ _ _ _ _ _ _ _ _ _ _ _ _ _ _ _ _ _ _ _ _ _ _ _ _ _ _ _ _ _ _ _ _ _ _ _ _ _ _ _ _ _ _ _ _ _ _ _ _ _ _ _ _ _ _ _ _ _ _ _ _ _ _ _ _ _ _ _ _ _ _ _ _ _ _ _ _ _ _ _ _ _ _ _ _ _ _ _ _ _ _ _ _ _ _ _ _ _ _ _ _ _ _ _ _ _ _ _ _ _ _ _ _ _ _ _ _ _ _ _ _ _ S.out (f0l _) (i0r _) (Nat.zero_le _) ((hrr.trans (by rw [e1,decide_eq_false (by omega)])))) | (exact hT _ (xW d ({ pl0 with zone:=d.zone,epoch:=d.epoch,index:=d.index }) (mp0) ([])) none none 0 0 (decide (0<d.epoch)) _ _ _ _ _ _ _ _ _ _ _ _ _ _ _ _ _ _ _ _ _ _ _ _ _ _ _ _ _ _ _ _ _ _ _ _ _ _ _ _ _ _ _ _ _ _ _ _ _ _ _ _ _ _ _ _ _ _ _ _ _ _ _ _ _ _ _ _ _ _ _ _ _ _ _ _ _ _ _ _ _ _ _ _ _ _ _ _ _ _ _ _ _ _ _ _ _ _ _ _ _ _ _ _ _ _ _ _ _ _ _ _ _ _ _ _ _ _ _ _ _ _ _ _ _ _ _ _ _ _ _ _ _ _ _ _ _ _ _ _ _ _ _ _ _ _ _ _ _ _ _ _ _ _ _ _ _ _ _ _ _ _ _ _ _ _ _ _ _ _ _ _ _ _ _ _ _ _ _ _ _ _ _ _ _ _ _ _ _ _ _ _ _ _ _ _ _ S.out (f0l _) (i0r _) (Nat.zero_le _) ((hrr.trans (by rw [e1,show decide (0<d.zone∧0<d.epoch)=decide (0<d.epoch) from (by congr 1;simp only [eq_iff_iff];omega)]))))
set_option maxRecDepth 20000
open Go.RowKit
set_option maxHeartbeats 4000000 in
theorem may_q9 {c:Code} (hb:(Tryz.f23).body=some c) {d:Wd} {ms ds:Value} {V:Array Value} (hV:V=wdV d ms ds) (ao dl:Option Addr) (zc dc:Nat) (hms:ms=.slice ao d.mp.zs.length zc) (hds:ds=.slice dl d.data.length dc) (w wa:World) (_hz:O.ZsAt w ao d.mp.zs) (hbd:BAt w dl d.data) (_hl:d.mp.zs.length≤1000) (B P:Nat) (hk:d.kind=9)
 (H:Hid (z0j d w wa B P V)) (r:Bool) (hr:r=docW d)
 {K2:Act→World→Prop} (hT:e0h K2 w V B P r d):z0k c K2 V B P w wa r:=by
 unfold z0j at H
 unfold z0k
 intros
 have HV:=uH hV
 have Hbd:=uH hbd
 clear hV hbd
 rw [e0w] at hr
 have e2:a0v d={ pl0 with zone:=d.zone,epoch:=d.epoch,index:=d.index }:=by simp [a0v,hk]
 have e3:mapW d=mp0:=by simp [mapW,hasM,hk]
 have e4:e0p d=d.data:=by simp [e0p,hasD,hk]
 rw [e2,e3,e4] at hr
 clear e2 e3 e4
 have Hr:=uH hr
 clear hr
 subst hms hds
 cases hb
 simp only [sndC,fstC]
 have S:=H
 clear H
 have s0:=(S.out.a0b 1 rfl).1
 obtain ⟨c0,c1,c2,c3,c4,c5,c6,c7,c8,c9,c10,c11,c12,c13,c14,c15,c16,c17,c18,c19,c20,c21,c22,c23,c24,c25,c26,c27,c28,c29,c30,c31,c32,c33,c34,c35,c36⟩:=a0r (show wa.heap[B]?=some (.cells (wdV d (.slice ao d.mp.zs.length zc) (.slice dl d.data.length dc)) 49 (0,0)) from (by rw [←HV.out];exact (S.out.pull (A:=[_])).head))
 rw [hk] at c0
 clear c1 c2 c3 c4 c5 c6 c7 c8 c9 c10 c11 c12 c13 c14 c15 c16 c17 c18 c19 c20 c21 c22 c23 c24 c25 c26 c27 c28 c29 c30 c31 c32 c33 c34 c35 c36
 refine a0a fun C HC=>?_
 go_wp2_with fail
 (have hC:=HC.out);clear HC;subst hC
 clear c0 s0
 refine wp_block ?_
 iterate 8 ((refine a0a fun C HC=>?_);(go_wp2_with fail);(have hC:=HC.out);clear HC;subst hC;(refine wp_cond_false rfl ?_))
 ((refine a0a fun C HC=>?_);(go_wp2_with fail);(have hC:=HC.out);clear HC;subst hC;(refine wp_cond_true rfl ?_))
 refine a0a fun C2 HC2=>?_
 refine wp_seq ?_
 ((obtain ⟨wd,hwd⟩:∃ wd,wd=wa.drew:=⟨_,rfl⟩);(have S:=uH (S.out.grow (w':=wd) (by rw [hwd];exact (Below.refl _ _).drew)));(have HC:Hid (wd.heap[B]?=some (.cells V 49 (0,0))):=uH (S.out.pull (A:=[_])).head);(refine wp_region_noPanic ?_);(refine wp_region_held (S:=(fun W:World=>W.heap[B]?=some (.cells V 49 (0,0)))) (by kernel_rfl) ?_);change wpAnyH _ _ _ _ _ _ _ _ (World.drew _);(rw [←hwd]);clear hwd)
 (refine tkD (i:=0) (v:=.pointer (some ⟨B,1,none⟩)) 157 rfl (fun w hSw=>(by obtain ⟨c0,c1,c2,c3,c4,c5,c6,c7,c8,c9,c10,c11,c12,c13,c14,c15,c16,c17,c18,c19,c20,c21,c22,c23,c24,c25,c26,c27,c28,c29,c30,c31,c32,c33,c34,c35,c36⟩:=a0r (show w.heap[B]?=some (.cells (wdV d (.slice ao d.mp.zs.length zc) (.slice dl d.data.length dc)) 49 (0,0)) from (by rw [←HV.out];exact hSw));go_simp)) HC.out ?_;(try simp only [Act.put,lA,lZ,lS]))
 (refine tkD (i:=1) (v:=aI aK d.zone) 158 rfl (fun w hSw=>(by obtain ⟨c0,c1,c2,c3,c4,c5,c6,c7,c8,c9,c10,c11,c12,c13,c14,c15,c16,c17,c18,c19,c20,c21,c22,c23,c24,c25,c26,c27,c28,c29,c30,c31,c32,c33,c34,c35,c36⟩:=a0r (show w.heap[B]?=some (.cells (wdV d (.slice ao d.mp.zs.length zc) (.slice dl d.data.length dc)) 49 (0,0)) from (by rw [←HV.out];exact hSw));go_simp)) HC.out ?_;(try simp only [Act.put,lA,lZ,lS]))
 (refine tkD (i:=2) (v:=.pointer (some ⟨B,2,none⟩)) 159 rfl (fun w hSw=>(by obtain ⟨c0,c1,c2,c3,c4,c5,c6,c7,c8,c9,c10,c11,c12,c13,c14,c15,c16,c17,c18,c19,c20,c21,c22,c23,c24,c25,c26,c27,c28,c29,c30,c31,c32,c33,c34,c35,c36⟩:=a0r (show w.heap[B]?=some (.cells (wdV d (.slice ao d.mp.zs.length zc) (.slice dl d.data.length dc)) 49 (0,0)) from (by rw [←HV.out];exact hSw));go_simp)) HC.out ?_;(try simp only [Act.put,lA,lZ,lS]))
 (refine tkD (i:=3) (v:=aI aK d.epoch) 160 rfl (fun w hSw=>(by obtain ⟨c0,c1,c2,c3,c4,c5,c6,c7,c8,c9,c10,c11,c12,c13,c14,c15,c16,c17,c18,c19,c20,c21,c22,c23,c24,c25,c26,c27,c28,c29,c30,c31,c32,c33,c34,c35,c36⟩:=a0r (show w.heap[B]?=some (.cells (wdV d (.slice ao d.mp.zs.length zc) (.slice dl d.data.length dc)) 49 (0,0)) from (by rw [←HV.out];exact hSw));go_simp)) HC.out ?_;(try simp only [Act.put,lA,lZ,lS]))
 (refine tkD (i:=4) (v:=.pointer (some ⟨B,3,none⟩)) 161 rfl (fun w hSw=>(by obtain ⟨c0,c1,c2,c3,c4,c5,c6,c7,c8,c9,c10,c11,c12,c13,c14,c15,c16,c17,c18,c19,c20,c21,c22,c23,c24,c25,c26,c27,c28,c29,c30,c31,c32,c33,c34,c35,c36⟩:=a0r (show w.heap[B]?=some (.cells (wdV d (.slice ao d.mp.zs.length zc) (.slice dl d.data.length dc)) 49 (0,0)) from (by rw [←HV.out];exact hSw));go_simp)) HC.out ?_;(try simp only [Act.put,lA,lZ,lS]))
 (refine tkD (i:=5) (v:=aI aK d.index) 162 rfl (fun w hSw=>(by obtain ⟨c0,c1,c2,c3,c4,c5,c6,c7,c8,c9,c10,c11,c12,c13,c14,c15,c16,c17,c18,c19,c20,c21,c22,c23,c24,c25,c26,c27,c28,c29,c30,c31,c32,c33,c34,c35,c36⟩:=a0r (show w.heap[B]?=some (.cells (wdV d (.slice ao d.mp.zs.length zc) (.slice dl d.data.length dc)) 49 (0,0)) from (by rw [←HV.out];exact hSw));go_simp)) HC.out ?_;(try simp only [Act.put,lA,lZ,lS]))
 (refine tkD (i:=6) (v:=.pointer (some ⟨B,36,none⟩)) 163 rfl (fun w hSw=>(by obtain ⟨c0,c1,c2,c3,c4,c5,c6,c7,c8,c9,c10,c11,c12,c13,c14,c15,c16,c17,c18,c19,c20,c21,c22,c23,c24,c25,c26,c27,c28,c29,c30,c31,c32,c33,c34,c35,c36⟩:=a0r (show w.heap[B]?=some (.cells (wdV d (.slice ao d.mp.zs.length zc) (.slice dl d.data.length dc)) 49 (0,0)) from (by rw [←HV.out];exact hSw));go_simp)) HC.out ?_;(try simp only [Act.put,lA,lZ,lS]))
 (refine tkD (i:=7) (v:=.slice dl d.data.length dc) 164 rfl (fun w hSw=>(by obtain ⟨c0,c1,c2,c3,c4,c5,c6,c7,c8,c9,c10,c11,c12,c13,c14,c15,c16,c17,c18,c19,c20,c21,c22,c23,c24,c25,c26,c27,c28,c29,c30,c31,c32,c33,c34,c35,c36⟩:=a0r (show w.heap[B]?=some (.cells (wdV d (.slice ao d.mp.zs.length zc) (.slice dl d.data.length dc)) 49 (0,0)) from (by rw [←HV.out];exact hSw));go_simp)) HC.out ?_;(try simp only [Act.put,lA,lZ,lS]))
 (refine tkD (i:=8) (v:=.pointer (some ⟨P,1,none⟩)) 165 rfl (fun w hSw=>(by obtain ⟨c0,c1,c2,c3,c4,c5,c6,c7,c8,c9,c10,c11,c12,c13,c14,c15,c16,c17,c18,c19,c20,c21,c22,c23,c24,c25,c26,c27,c28,c29,c30,c31,c32,c33,c34,c35,c36⟩:=a0r (show w.heap[B]?=some (.cells (wdV d (.slice ao d.mp.zs.length zc) (.slice dl d.data.length dc)) 49 (0,0)) from (by rw [←HV.out];exact hSw));go_simp)) HC.out ?_;(try simp only [Act.put,lA,lZ,lS]))
 (refine oneD 9 rfl (fun K' hK'=>?_))
 ((obtain ⟨p1,p2,p3⟩:=S.out.a0b 0 rfl);go_simp;(refine hK' _ _ ⟨?_,a0k fun w5 hw5=>?_⟩);(exact ((S.out.setObj 1 (aI aK d.zone)).pull (A:=[_])).head);(have S:=uH ((S.out.setObj 1 (aI aK d.zone))));(rw [←hw5] at S);(simp only [lA,lZ,lS] at S);(have HC:Hid (w5.heap[B]?=some (.cells V 49 (0,0))):=uH (S.out.pull (A:=[_])).head);clear hw5 p1 p2 p3 hK' K';(try simp only [Act.put,lA,lZ,lS]))
 (refine tkD (i:=10) (v:=.pointer (some ⟨P,2,none⟩)) 166 rfl (fun w hSw=>(by obtain ⟨c0,c1,c2,c3,c4,c5,c6,c7,c8,c9,c10,c11,c12,c13,c14,c15,c16,c17,c18,c19,c20,c21,c22,c23,c24,c25,c26,c27,c28,c29,c30,c31,c32,c33,c34,c35,c36⟩:=a0r (show w.heap[B]?=some (.cells (wdV d (.slice ao d.mp.zs.length zc) (.slice dl d.data.length dc)) 49 (0,0)) from (by rw [←HV.out];exact hSw));go_simp)) HC.out ?_;(try simp only [Act.put,lA,lZ,lS]))
 (refine oneD 11 rfl (fun K' hK'=>?_))
 ((obtain ⟨p1,p2,p3⟩:=S.out.a0b 0 rfl);go_simp;(refine hK' _ _ ⟨?_,a0k fun w5 hw5=>?_⟩);(exact ((S.out.setObj 2 (aI aK d.epoch)).pull (A:=[_])).head);(have S:=uH ((S.out.setObj 2 (aI aK d.epoch))));(rw [←hw5] at S);(simp only [lA,lZ,lS] at S);(have HC:Hid (w5.heap[B]?=some (.cells V 49 (0,0))):=uH (S.out.pull (A:=[_])).head);clear hw5 p1 p2 p3 hK' K';(try simp only [Act.put,lA,lZ,lS]))
 (refine tkD (i:=12) (v:=.pointer (some ⟨P,3,none⟩)) 167 rfl (fun w hSw=>(by obtain ⟨c0,c1,c2,c3,c4,c5,c6,c7,c8,c9,c10,c11,c12,c13,c14,c15,c16,c17,c18,c19,c20,c21,c22,c23,c24,c25,c26,c27,c28,c29,c30,c31,c32,c33,c34,c35,c36⟩:=a0r (show w.heap[B]?=some (.cells (wdV d (.slice ao d.mp.zs.length zc) (.slice dl d.data.length dc)) 49 (0,0)) from (by rw [←HV.out];exact hSw));go_simp)) HC.out ?_;(try simp only [Act.put,lA,lZ,lS]))
 (refine oneD 13 rfl (fun K' hK'=>?_))
 ((obtain ⟨p1,p2,p3⟩:=S.out.a0b 0 rfl);go_simp;(refine hK' _ _ ⟨?_,a0k fun w5 hw5=>?_⟩);(exact ((S.out.setObj 3 (aI aK d.index)).pull (A:=[_])).head);(have S:=uH ((S.out.setObj 3 (aI aK d.index))));(rw [←hw5] at S);(simp only [lA,lZ,lS] at S);(have HC:Hid (w5.heap[B]?=some (.cells V 49 (0,0))):=uH (S.out.pull (A:=[_])).head);clear hw5 p1 p2 p3 hK' K';(try simp only [Act.put,lA,lZ,lS]))
 (refine tkD (i:=14) (v:=.pointer (some ⟨P,36,none⟩)) 168 rfl (fun w hSw=>(by obtain ⟨c0,c1,c2,c3,c4,c5,c6,c7,c8,c9,c10,c11,c12,c13,c14,c15,c16,c17,c18,c19,c20,c21,c22,c23,c24,c25,c26,c27,c28,c29,c30,c31,c32,c33,c34,c35,c36⟩:=a0r (show w.heap[B]?=some (.cells (wdV d (.slice ao d.mp.zs.length zc) (.slice dl d.data.length dc)) 49 (0,0)) from (by rw [←HV.out];exact hSw));go_simp)) HC.out ?_;(try simp only [Act.put,lA,lZ,lS]))
 (refine oneD 15 rfl (fun K' hK'=>?_))
 ((obtain ⟨p1,p2,p3⟩:=S.out.a0b 0 rfl);go_simp;(refine hK' _ _ ⟨?_,a0k fun w5 hw5=>?_⟩);(exact ((S.out.setObj 36 (.slice dl d.data.length dc)).pull (A:=[_])).head);(have S:=uH ((S.out.setObj 36 (.slice dl d.data.length dc))));(rw [←hw5] at S);(simp only [lA,lZ,lS] at S);(have HC:Hid (w5.heap[B]?=some (.cells V 49 (0,0))):=uH (S.out.pull (A:=[_])).head);clear hw5 p1 p2 p3 hK' K';(try simp only [Act.put,lA,lZ,lS]))
 ((refine wpAnyH_done (by kernel_rfl) ?_ _);(refine NoPanic.normal ?_);(go_wp2_with fail))
 (have hC:=HC2.out);clear HC2;subst hC
 clear HC
 obtain ⟨c0,c1,c2,c3,c4,c5,c6,c7,c8,c9,c10,c11,c12,c13,c14,c15,c16,c17,c18,c19,c20,c21,c22,c23,c24,c25,c26,c27,c28,c29,c30,c31,c32,c33,c34,c35,c36⟩:=a0r (show w5.heap[B]?=some (.cells (wdV d (.slice ao d.mp.zs.length zc) (.slice dl d.data.length dc)) 49 (0,0)) from (by rw [←HV.out];exact (S.out.pull (A:=[_])).head))
 have sB:=(S.out.a0b 1 rfl).1
 clear c0 c3 c4 c5 c6 c7 c8 c9 c10 c11 c12 c13 c14 c15 c16 c17 c18 c19 c20 c21 c22 c23 c24 c25 c26 c27 c28 c29 c30 c31 c32 c33 c34 c35
 have e1:okD d=decide (0<d.zone∧0<d.epoch∧0<d.data.length):=by simp only [okD,hk,Int.reduceEq,if_false,if_true];congr 1;simp only [eq_iff_iff,ne_eq,←List.length_eq_zero_iff];omega
 have hrr:=Hr.out
 go_wp2_with fail
 all_goals first | (exact hT _ (xW d ({ pl0 with zone:=d.zone,epoch:=d.epoch,index:=d.index }) (mp0) (d.data)) none dl 0 dc (false) _ _ _ _ _ _ _ _ _ _ _ _ _ _ _ _ _ _ _ _ _ _ _ _ _ _ _ _ _ _ _ _ _ _ _ _ _ _ _ _ _ _ _ _ _ _ _ _ _ _ _ _ _ _ _ _ _ _ _ _ _ _ _ _ _ _ _ _ _ _ _ _ _ _ _ _ _ _ _ _ _ _ _ _ _ _ _ _ _ _ _ _ _ _ _ _ _ _ _ _ _ _ _ _ _ _ _ _ _ _ _ _ _ _ _ _ _ _ _ _ _ _ _ _ _ _ _ _ _ _ _ _ _ _ _ _ _ _ _ _ _ _ _ _ _ _ _ _ _ _ _ _ _ _ _ _ _ _ _ _ _ _ _ _ _ _ _ _ _ _ _ _ _ _ _ _ _ _ _ _ _ _ _ _ _ _ _ _ _ _ _ _ _ _ _ _ _ S.out (f0l _) Hbd.out (Nat.zero_le _) ((hrr.trans (by rw [e1,decide_eq_false (by omega)])))) | (exact hT _ (xW d ({ pl0 with zone:=d.zone,epoch:=d.epoch,index:=d.index }) (mp0) (d.data)) none dl 0 dc (decide (0<d.data.length)) _ _ _ _ _ _ _ _ _ _ _ _ _ _ _ _ _ _ _ _ _ _ _ _ _ _ _ _ _ _ _ _ _ _ _ _ _ _ _ _ _ _ _ _ _ _ _ _ _ _ _ _ _ _ _ _ _ _ _ _ _ _ _ _ _ _ _ _ _ _ _ _ _ _ _ _ _ _ _ _ _ _ _ _ _ _ _ _ _ _ _ _ _ _ _ _ _ _ _ _ _ _ _ _ _ _ _ _ _ _ _ _ _ _ _ _ _ _ _ _ _ _ _ _ _ _ _ _ _ _ _ _ _ _ _ _ _ _ _ _ _ _ _ _ _ _ _ _ _ _ _ _ _ _ _ _ _ _ _ _ _ _ _ _ _ _ _ _ _ _ _ _ _ _ _ _ _ _ _ _ _ _ _ _ _ _ _ _ _ _ _ _ _ _ _ _ _ S.out (f0l _) Hbd.out (Nat.zero_le _) ((hrr.trans (by rw [e1,show decide (0<d.zone∧0<d.epoch∧0<d.data.length)=decide (0<d.data.length) from (by congr 1;simp only [eq_iff_iff];omega)]))))
end Go.Proofs.YtogamdaomdoapaaGreat