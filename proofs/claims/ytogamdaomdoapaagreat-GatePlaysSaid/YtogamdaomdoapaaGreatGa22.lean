/- Texts put together: WK4, WK5. -/
import Derived.Test.YtogamdaomdoapaaGreatGa19
namespace Go.Proofs.YtogamdaomdoapaaGreat
open Go.Value renaming int→aI,string→aS
open Go.IntKind renaming i64→aK
open List renaming setIfInBounds_toArray→lA,set_cons_zero→lZ,set_cons_succ→lS
open Go.Lib renaming hid→uH
set_option maxRecDepth 20000
open Go.RowKit
set_option maxHeartbeats 4000000 in
theorem may_k7 {c:Code} (hb:(Tryz.f69).body=some c) {d:Wd} {ms ds:Value} {V:Array Value} (hV:V=wdV d ms ds) (dl:Option Addr) (dc:Nat) (hds:ds=.slice dl d.data.length dc) (hd:d.data.length≤9223372036854775807) (w wa:World) (B P n:Nat) (dB mB:Bool) (hk:d.kind=7)
 (H:Hid (KdSt w wa B P V)) (r:Bool) (hr:r=(okW d&&eqPl d.pl (a0v d)&&(dB==hasD d.kind)&&(mB==hasM d.kind)&&decide (n≤131072)))
 {K2:Act→World→Prop} {Q:Exit→Act→World→Prop} (hT:g0d K2 w V B P dB mB r d n):KdGo c K2 Q V B P dB mB wa:=by
 unfold KdSt at H
 unfold KdGo
 intros
 have hs:V.size=37:=by rw [hV];rfl
 have HV:=uH hV
 clear hV
 have e1:okW d=(u0s d):=by simp [okW,hk]
 have e2:a0v d={ pl0 with zone:=d.zone,epoch:=d.epoch,index:=d.index,size:=d.size,off:=d.off,sf:=d.sf,st:=d.st }:=by simp [a0v,hk]
 have e3:hasD d.kind=true:=by simp [hasD,hk]
 have e4:hasM d.kind=false:=by simp [hasM,hk]
 rw [e1,e2,e3,e4] at hr
 clear e1 e2 e3 e4
 cases hb
 simp only [sndC,fstC]
 have S:=H
 clear H
 obtain ⟨c0,c1,c2,c3,c4,c5,c6,c7,c8,c9,c10,c11,c12,c13,c14,c15,c16,c17,c18,c19,c20,c21,c22,c23,c24,c25,c26,c27,c28,c29,c30,c31,c32,c33,c34,c35,c36⟩:=wbox (show wa.heap[B]?=some (.cells (wdV d ms ds) 85 (0,0)) from (by rw [←HV.out];exact (S.out.pull (A:=[_])).head))
 rw [hk] at c0
 clear c1 c2 c3 c4 c5 c6 c7 c8 c9 c10 c11 c12 c13 c14 c15 c16 c17 c18 c19 c20 c21 c22 c23 c24 c25 c26 c27 c28 c29 c30 c31 c32 c33 c34 c35 c36
 refine a0a fun C HC=>?_
 go_wp2_with fail
 (have hC:=HC.out);clear HC;subst hC
 clear c0
 refine wp_block ?_
 iterate 6 ((refine a0a fun C HC=>?_);(go_wp2_with fail);(have hC:=HC.out);clear HC;subst hC;(refine wp_cond_false rfl ?_))
 ((refine a0a fun C HC=>?_);(go_wp2_with fail);(have hC:=HC.out);clear HC;subst hC;(refine wp_cond_true rfl ?_))
 refine a0a fun C2 HC2=>?_
 refine wp_seq ?_
 refine wp_region_lit ?_
 (refine wpList_load_row rfl 85 _ rfl B rfl _ _ _ _ ((S.out.pull (A:=[_])).head) Tryz.underlying85 rfl (by rw [hs];kernel_rfl) ?_)
 go_wp2_with fail
 refine (u0h HV.out dl dc hds _ hd).mono ?_
 rintro e w5 ⟨rfl,hb5⟩
 have S:=uH (S.out.grow hb5)
 clear hb5
 go_wp2_with fail
 (have hC:=HC2.out);clear HC2;subst hC
 refine a0d fun wb hwb=>?_
 subst hwb
 ((obtain ⟨wd,hwd⟩:∃ wd,wd=wb.drew:=⟨_,rfl⟩);(have S:=uH (S.out.grow (w':=wd) (by rw [hwd];exact (Below.refl _ _).drew)));(have HC:Hid (wd.heap[B]?=some (.cells V 85 (0,0))):=uH (S.out.pull (A:=[_])).head);(refine wp_region_noPanic ?_);(refine wp_region_held (S:=(fun W:World=>W.heap[B]?=some (.cells V 85 (0,0)))) (by kernel_rfl) ?_);change wpAnyH _ _ _ _ _ _ _ _ (World.drew _);(rw [←hwd]);clear hwd)
 (refine tkD (i:=0) (v:=.pointer (some ⟨B,1,none⟩)) 83 rfl (fun w hSw=>(by obtain ⟨c0,c1,c2,c3,c4,c5,c6,c7,c8,c9,c10,c11,c12,c13,c14,c15,c16,c17,c18,c19,c20,c21,c22,c23,c24,c25,c26,c27,c28,c29,c30,c31,c32,c33,c34,c35,c36⟩:=wbox (show w.heap[B]?=some (.cells (wdV d ms ds) 85 (0,0)) from (by rw [←HV.out];exact hSw));go_simp)) HC.out ?_;(try simp only [Act.put,lA,lZ,lS]))
 (refine tkD (i:=1) (v:=aI aK d.zone) 84 rfl (fun w hSw=>(by obtain ⟨c0,c1,c2,c3,c4,c5,c6,c7,c8,c9,c10,c11,c12,c13,c14,c15,c16,c17,c18,c19,c20,c21,c22,c23,c24,c25,c26,c27,c28,c29,c30,c31,c32,c33,c34,c35,c36⟩:=wbox (show w.heap[B]?=some (.cells (wdV d ms ds) 85 (0,0)) from (by rw [←HV.out];exact hSw));go_simp)) HC.out ?_;(try simp only [Act.put,lA,lZ,lS]))
 (refine tkD (i:=2) (v:=.pointer (some ⟨B,2,none⟩)) 85 rfl (fun w hSw=>(by obtain ⟨c0,c1,c2,c3,c4,c5,c6,c7,c8,c9,c10,c11,c12,c13,c14,c15,c16,c17,c18,c19,c20,c21,c22,c23,c24,c25,c26,c27,c28,c29,c30,c31,c32,c33,c34,c35,c36⟩:=wbox (show w.heap[B]?=some (.cells (wdV d ms ds) 85 (0,0)) from (by rw [←HV.out];exact hSw));go_simp)) HC.out ?_;(try simp only [Act.put,lA,lZ,lS]))
 (refine tkD (i:=3) (v:=aI aK d.epoch) 86 rfl (fun w hSw=>(by obtain ⟨c0,c1,c2,c3,c4,c5,c6,c7,c8,c9,c10,c11,c12,c13,c14,c15,c16,c17,c18,c19,c20,c21,c22,c23,c24,c25,c26,c27,c28,c29,c30,c31,c32,c33,c34,c35,c36⟩:=wbox (show w.heap[B]?=some (.cells (wdV d ms ds) 85 (0,0)) from (by rw [←HV.out];exact hSw));go_simp)) HC.out ?_;(try simp only [Act.put,lA,lZ,lS]))
 (refine tkD (i:=4) (v:=.pointer (some ⟨B,3,none⟩)) 87 rfl (fun w hSw=>(by obtain ⟨c0,c1,c2,c3,c4,c5,c6,c7,c8,c9,c10,c11,c12,c13,c14,c15,c16,c17,c18,c19,c20,c21,c22,c23,c24,c25,c26,c27,c28,c29,c30,c31,c32,c33,c34,c35,c36⟩:=wbox (show w.heap[B]?=some (.cells (wdV d ms ds) 85 (0,0)) from (by rw [←HV.out];exact hSw));go_simp)) HC.out ?_;(try simp only [Act.put,lA,lZ,lS]))
 (refine tkD (i:=5) (v:=aI aK d.index) 88 rfl (fun w hSw=>(by obtain ⟨c0,c1,c2,c3,c4,c5,c6,c7,c8,c9,c10,c11,c12,c13,c14,c15,c16,c17,c18,c19,c20,c21,c22,c23,c24,c25,c26,c27,c28,c29,c30,c31,c32,c33,c34,c35,c36⟩:=wbox (show w.heap[B]?=some (.cells (wdV d ms ds) 85 (0,0)) from (by rw [←HV.out];exact hSw));go_simp)) HC.out ?_;(try simp only [Act.put,lA,lZ,lS]))
 (refine tkD (i:=6) (v:=.pointer (some ⟨B,4,none⟩)) 89 rfl (fun w hSw=>(by obtain ⟨c0,c1,c2,c3,c4,c5,c6,c7,c8,c9,c10,c11,c12,c13,c14,c15,c16,c17,c18,c19,c20,c21,c22,c23,c24,c25,c26,c27,c28,c29,c30,c31,c32,c33,c34,c35,c36⟩:=wbox (show w.heap[B]?=some (.cells (wdV d ms ds) 85 (0,0)) from (by rw [←HV.out];exact hSw));go_simp)) HC.out ?_;(try simp only [Act.put,lA,lZ,lS]))
 (refine tkD (i:=7) (v:=aI aK d.size) 90 rfl (fun w hSw=>(by obtain ⟨c0,c1,c2,c3,c4,c5,c6,c7,c8,c9,c10,c11,c12,c13,c14,c15,c16,c17,c18,c19,c20,c21,c22,c23,c24,c25,c26,c27,c28,c29,c30,c31,c32,c33,c34,c35,c36⟩:=wbox (show w.heap[B]?=some (.cells (wdV d ms ds) 85 (0,0)) from (by rw [←HV.out];exact hSw));go_simp)) HC.out ?_;(try simp only [Act.put,lA,lZ,lS]))
 (refine tkD (i:=8) (v:=.pointer (some ⟨B,5,none⟩)) 91 rfl (fun w hSw=>(by obtain ⟨c0,c1,c2,c3,c4,c5,c6,c7,c8,c9,c10,c11,c12,c13,c14,c15,c16,c17,c18,c19,c20,c21,c22,c23,c24,c25,c26,c27,c28,c29,c30,c31,c32,c33,c34,c35,c36⟩:=wbox (show w.heap[B]?=some (.cells (wdV d ms ds) 85 (0,0)) from (by rw [←HV.out];exact hSw));go_simp)) HC.out ?_;(try simp only [Act.put,lA,lZ,lS]))
 (refine tkD (i:=9) (v:=aI aK d.off) 92 rfl (fun w hSw=>(by obtain ⟨c0,c1,c2,c3,c4,c5,c6,c7,c8,c9,c10,c11,c12,c13,c14,c15,c16,c17,c18,c19,c20,c21,c22,c23,c24,c25,c26,c27,c28,c29,c30,c31,c32,c33,c34,c35,c36⟩:=wbox (show w.heap[B]?=some (.cells (wdV d ms ds) 85 (0,0)) from (by rw [←HV.out];exact hSw));go_simp)) HC.out ?_;(try simp only [Act.put,lA,lZ,lS]))
 (refine tkD (i:=10) (v:=.pointer (some ⟨B,8,none⟩)) 93 rfl (fun w hSw=>(by obtain ⟨c0,c1,c2,c3,c4,c5,c6,c7,c8,c9,c10,c11,c12,c13,c14,c15,c16,c17,c18,c19,c20,c21,c22,c23,c24,c25,c26,c27,c28,c29,c30,c31,c32,c33,c34,c35,c36⟩:=wbox (show w.heap[B]?=some (.cells (wdV d ms ds) 85 (0,0)) from (by rw [←HV.out];exact hSw));go_simp)) HC.out ?_;(try simp only [Act.put,lA,lZ,lS]))
 (refine tkD (i:=11) (v:=.agg #[aS d.sf,aS d.st]) 94 rfl (fun w hSw=>(by obtain ⟨c0,c1,c2,c3,c4,c5,c6,c7,c8,c9,c10,c11,c12,c13,c14,c15,c16,c17,c18,c19,c20,c21,c22,c23,c24,c25,c26,c27,c28,c29,c30,c31,c32,c33,c34,c35,c36⟩:=wbox (show w.heap[B]?=some (.cells (wdV d ms ds) 85 (0,0)) from (by rw [←HV.out];exact hSw));go_simp)) HC.out ?_;(try simp only [Act.put,lA,lZ,lS]))
 (refine tkD (i:=12) (v:=.pointer (some ⟨P,0,none⟩)) 95 rfl (fun w hSw=>(by obtain ⟨c0,c1,c2,c3,c4,c5,c6,c7,c8,c9,c10,c11,c12,c13,c14,c15,c16,c17,c18,c19,c20,c21,c22,c23,c24,c25,c26,c27,c28,c29,c30,c31,c32,c33,c34,c35,c36⟩:=wbox (show w.heap[B]?=some (.cells (wdV d ms ds) 85 (0,0)) from (by rw [←HV.out];exact hSw));go_simp)) HC.out ?_;(try simp only [Act.put,lA,lZ,lS]))
 (refine oneD 13 rfl (fun K' hK'=>?_))
 ((obtain ⟨p1,p2,p3⟩:=S.out.a0b 0 rfl);go_simp;(refine hK' _ _ ⟨?_,a0k fun w5 hw5=>?_⟩);(exact ((S.out.setObj 0 (aI aK d.zone)).pull (A:=[_])).head);(have S:=uH ((S.out.setObj 0 (aI aK d.zone))));(rw [←hw5] at S);(simp only [lA,lZ] at S);(have HC:Hid (w5.heap[B]?=some (.cells V 85 (0,0))):=uH (S.out.pull (A:=[_])).head);clear hw5 p1 p2 p3 hK' K';(try simp only [Act.put,lA,lZ,lS]))
 (refine tkD (i:=14) (v:=.pointer (some ⟨P,1,none⟩)) 96 rfl (fun w hSw=>(by obtain ⟨c0,c1,c2,c3,c4,c5,c6,c7,c8,c9,c10,c11,c12,c13,c14,c15,c16,c17,c18,c19,c20,c21,c22,c23,c24,c25,c26,c27,c28,c29,c30,c31,c32,c33,c34,c35,c36⟩:=wbox (show w.heap[B]?=some (.cells (wdV d ms ds) 85 (0,0)) from (by rw [←HV.out];exact hSw));go_simp)) HC.out ?_;(try simp only [Act.put,lA,lZ,lS]))
 (refine oneD 15 rfl (fun K' hK'=>?_))
 ((obtain ⟨p1,p2,p3⟩:=S.out.a0b 0 rfl);go_simp;(refine hK' _ _ ⟨?_,a0k fun w5 hw5=>?_⟩);(exact ((S.out.setObj 1 (aI aK d.epoch)).pull (A:=[_])).head);(have S:=uH ((S.out.setObj 1 (aI aK d.epoch))));(rw [←hw5] at S);(simp only [lA,lZ,lS] at S);(have HC:Hid (w5.heap[B]?=some (.cells V 85 (0,0))):=uH (S.out.pull (A:=[_])).head);clear hw5 p1 p2 p3 hK' K';(try simp only [Act.put,lA,lZ,lS]))
 (refine tkD (i:=16) (v:=.pointer (some ⟨P,2,none⟩)) 97 rfl (fun w hSw=>(by obtain ⟨c0,c1,c2,c3,c4,c5,c6,c7,c8,c9,c10,c11,c12,c13,c14,c15,c16,c17,c18,c19,c20,c21,c22,c23,c24,c25,c26,c27,c28,c29,c30,c31,c32,c33,c34,c35,c36⟩:=wbox (show w.heap[B]?=some (.cells (wdV d ms ds) 85 (0,0)) from (by rw [←HV.out];exact hSw));go_simp)) HC.out ?_;(try simp only [Act.put,lA,lZ,lS]))
 (refine oneD 17 rfl (fun K' hK'=>?_))
 ((obtain ⟨p1,p2,p3⟩:=S.out.a0b 0 rfl);go_simp;(refine hK' _ _ ⟨?_,a0k fun w5 hw5=>?_⟩);(exact ((S.out.setObj 2 (aI aK d.index)).pull (A:=[_])).head);(have S:=uH ((S.out.setObj 2 (aI aK d.index))));(rw [←hw5] at S);(simp only [lA,lZ,lS] at S);(have HC:Hid (w5.heap[B]?=some (.cells V 85 (0,0))):=uH (S.out.pull (A:=[_])).head);clear hw5 p1 p2 p3 hK' K';(try simp only [Act.put,lA,lZ,lS]))
 (refine tkD (i:=18) (v:=.pointer (some ⟨P,3,none⟩)) 98 rfl (fun w hSw=>(by obtain ⟨c0,c1,c2,c3,c4,c5,c6,c7,c8,c9,c10,c11,c12,c13,c14,c15,c16,c17,c18,c19,c20,c21,c22,c23,c24,c25,c26,c27,c28,c29,c30,c31,c32,c33,c34,c35,c36⟩:=wbox (show w.heap[B]?=some (.cells (wdV d ms ds) 85 (0,0)) from (by rw [←HV.out];exact hSw));go_simp)) HC.out ?_;(try simp only [Act.put,lA,lZ,lS]))
 (refine oneD 19 rfl (fun K' hK'=>?_))
 ((obtain ⟨p1,p2,p3⟩:=S.out.a0b 0 rfl);go_simp;(refine hK' _ _ ⟨?_,a0k fun w5 hw5=>?_⟩);(exact ((S.out.setObj 3 (aI aK d.size)).pull (A:=[_])).head);(have S:=uH ((S.out.setObj 3 (aI aK d.size))));(rw [←hw5] at S);(simp only [lA,lZ,lS] at S);(have HC:Hid (w5.heap[B]?=some (.cells V 85 (0,0))):=uH (S.out.pull (A:=[_])).head);clear hw5 p1 p2 p3 hK' K';(try simp only [Act.put,lA,lZ,lS]))
 (refine tkD (i:=20) (v:=.pointer (some ⟨P,4,none⟩)) 99 rfl (fun w hSw=>(by obtain ⟨c0,c1,c2,c3,c4,c5,c6,c7,c8,c9,c10,c11,c12,c13,c14,c15,c16,c17,c18,c19,c20,c21,c22,c23,c24,c25,c26,c27,c28,c29,c30,c31,c32,c33,c34,c35,c36⟩:=wbox (show w.heap[B]?=some (.cells (wdV d ms ds) 85 (0,0)) from (by rw [←HV.out];exact hSw));go_simp)) HC.out ?_;(try simp only [Act.put,lA,lZ,lS]))
 (refine oneD 21 rfl (fun K' hK'=>?_))
 ((obtain ⟨p1,p2,p3⟩:=S.out.a0b 0 rfl);go_simp;(refine hK' _ _ ⟨?_,a0k fun w5 hw5=>?_⟩);(exact ((S.out.setObj 4 (aI aK d.off)).pull (A:=[_])).head);(have S:=uH ((S.out.setObj 4 (aI aK d.off))));(rw [←hw5] at S);(simp only [lA,lZ,lS] at S);(have HC:Hid (w5.heap[B]?=some (.cells V 85 (0,0))):=uH (S.out.pull (A:=[_])).head);clear hw5 p1 p2 p3 hK' K';(try simp only [Act.put,lA,lZ,lS]))
 (refine tkD (i:=22) (v:=.pointer (some ⟨P,7,none⟩)) 100 rfl (fun w hSw=>(by obtain ⟨c0,c1,c2,c3,c4,c5,c6,c7,c8,c9,c10,c11,c12,c13,c14,c15,c16,c17,c18,c19,c20,c21,c22,c23,c24,c25,c26,c27,c28,c29,c30,c31,c32,c33,c34,c35,c36⟩:=wbox (show w.heap[B]?=some (.cells (wdV d ms ds) 85 (0,0)) from (by rw [←HV.out];exact hSw));go_simp)) HC.out ?_;(try simp only [Act.put,lA,lZ,lS]))
 (refine oneD 23 rfl (fun K' hK'=>?_))
 ((obtain ⟨p1,p2,p3⟩:=S.out.a0b 0 rfl);go_simp;(refine hK' _ _ ⟨?_,a0k fun w5 hw5=>?_⟩);(exact (((S.out.setObj 7 (aS d.sf)).setObj 8 (aS d.st)).pull (A:=[_])).head);(have S:=uH (((S.out.setObj 7 (aS d.sf)).setObj 8 (aS d.st))));(rw [←hw5] at S);(simp only [lA,lZ,lS] at S);(have HC:Hid (w5.heap[B]?=some (.cells V 85 (0,0))):=uH (S.out.pull (A:=[_])).head);clear hw5 p1 p2 p3 hK' K';(try simp only [Act.put,lA,lZ,lS]))
 ((refine wpAnyH_done (by kernel_rfl) ?_ _);(refine NoPanic.normal ?_);(go_wp2_with fail))
 exact hT _ ({ pl0 with zone:=d.zone,epoch:=d.epoch,index:=d.index,size:=d.size,off:=d.off,sf:=d.sf,st:=d.st }) (u0s d) true false _ _ _ _ _ _ _ _ _ _ _ _ _ _ _ _ _ _ _ _ _ _ _ _ _ _ _ _ _ _ _ _ _ _ _ _ _ _ _ _ _ _ _ _ _ _ _ _ _ _ _ _ _ _ _ _ _ _ _ _ _ _ _ _ _ _ _ _ _ _ _ _ _ _ _ _ _ _ _ _ _ _ _ _ _ _ _ _ _ _ _ _ _ _ _ _ _ _ _ _ _ _ _ _ _ _ _ _ _ _ _ _ _ _ _ _ _ _ _ _ _ _ _ _ _ _ _ _ _ _ _ _ _ _ _ _ _ _ _ S.out hr
set_option maxRecDepth 20000
open Go.RowKit
set_option maxHeartbeats 4000000 in
theorem may_k6 {c:Code} (hb:(Tryz.f69).body=some c) {d:Wd} {ms ds:Value} {V:Array Value} (hV:V=wdV d ms ds) (w wa:World) (B P n:Nat) (dB mB:Bool) (hk:d.kind=6)
 (H:Hid (KdSt w wa B P V)) (r:Bool) (hr:r=(okW d&&eqPl d.pl (a0v d)&&(dB==hasD d.kind)&&(mB==hasM d.kind)&&decide (n≤131072)))
 {K2:Act→World→Prop} {Q:Exit→Act→World→Prop} (hT:g0d K2 w V B P dB mB r d n):KdGo c K2 Q V B P dB mB wa:=by
 unfold KdSt at H
 unfold KdGo
 intros
 have hs:V.size=37:=by rw [hV];rfl
 have HV:=uH hV
 clear hV
 have e1:okW d=(ansW d):=by simp [okW,hk]
 have e2:a0v d={ pl0 with op:=d.op,err:=d.err,rep:=d.rep,host:=d.host }:=by simp [a0v,hk]
 have e3:hasD d.kind=false:=by simp [hasD,hk]
 have e4:hasM d.kind=false:=by simp [hasM,hk]
 rw [e1,e2,e3,e4] at hr
 clear e1 e2 e3 e4
 cases hb
 simp only [sndC,fstC]
 have S:=H
 clear H
 obtain ⟨c0,c1,c2,c3,c4,c5,c6,c7,c8,c9,c10,c11,c12,c13,c14,c15,c16,c17,c18,c19,c20,c21,c22,c23,c24,c25,c26,c27,c28,c29,c30,c31,c32,c33,c34,c35,c36⟩:=wbox (show wa.heap[B]?=some (.cells (wdV d ms ds) 85 (0,0)) from (by rw [←HV.out];exact (S.out.pull (A:=[_])).head))
 rw [hk] at c0
 clear c1 c2 c3 c4 c5 c6 c7 c8 c9 c10 c11 c12 c13 c14 c15 c16 c17 c18 c19 c20 c21 c22 c23 c24 c25 c26 c27 c28 c29 c30 c31 c32 c33 c34 c35 c36
 refine a0a fun C HC=>?_
 go_wp2_with fail
 (have hC:=HC.out);clear HC;subst hC
 clear c0
 refine wp_block ?_
 iterate 5 ((refine a0a fun C HC=>?_);(go_wp2_with fail);(have hC:=HC.out);clear HC;subst hC;(refine wp_cond_false rfl ?_))
 ((refine a0a fun C HC=>?_);(go_wp2_with fail);(have hC:=HC.out);clear HC;subst hC;(refine wp_cond_true rfl ?_))
 refine a0a fun C2 HC2=>?_
 refine wp_seq ?_
 refine wp_region_lit ?_
 (refine wpList_load_row rfl 85 _ rfl B rfl _ _ _ _ ((S.out.pull (A:=[_])).head) Tryz.underlying85 rfl (by rw [hs];kernel_rfl) ?_)
 go_wp2_with fail
 refine (p0h HV.out _).mono ?_
 rintro e w5 ⟨rfl,hb5⟩
 have S:=uH (S.out.grow hb5)
 clear hb5
 go_wp2_with fail
 (have hC:=HC2.out);clear HC2;subst hC
 refine a0d fun wb hwb=>?_
 subst hwb
 ((obtain ⟨wd,hwd⟩:∃ wd,wd=wb.drew:=⟨_,rfl⟩);(have S:=uH (S.out.grow (w':=wd) (by rw [hwd];exact (Below.refl _ _).drew)));(have HC:Hid (wd.heap[B]?=some (.cells V 85 (0,0))):=uH (S.out.pull (A:=[_])).head);(refine wp_region_noPanic ?_);(refine wp_region_held (S:=(fun W:World=>W.heap[B]?=some (.cells V 85 (0,0)))) (by kernel_rfl) ?_);change wpAnyH _ _ _ _ _ _ _ _ (World.drew _);(rw [←hwd]);clear hwd)
 (refine tkD (i:=0) (v:=.pointer (some ⟨B,10,none⟩)) 67 rfl (fun w hSw=>(by obtain ⟨c0,c1,c2,c3,c4,c5,c6,c7,c8,c9,c10,c11,c12,c13,c14,c15,c16,c17,c18,c19,c20,c21,c22,c23,c24,c25,c26,c27,c28,c29,c30,c31,c32,c33,c34,c35,c36⟩:=wbox (show w.heap[B]?=some (.cells (wdV d ms ds) 85 (0,0)) from (by rw [←HV.out];exact hSw));go_simp)) HC.out ?_;(try simp only [Act.put,lA,lZ,lS]))
 (refine tkD (i:=1) (v:=.agg #[aI aK d.op.kind,aI aK d.op.client,aI aK d.op.seq,aS d.op.key,aS d.op.who,aS d.op.tkey,aS d.op.twho,aI aK d.op.item,aI aK d.op.count,aI aK d.op.price,.bool d.op.buy,aI aK d.op.id]) 68 rfl (fun w hSw=>(by obtain ⟨c0,c1,c2,c3,c4,c5,c6,c7,c8,c9,c10,c11,c12,c13,c14,c15,c16,c17,c18,c19,c20,c21,c22,c23,c24,c25,c26,c27,c28,c29,c30,c31,c32,c33,c34,c35,c36⟩:=wbox (show w.heap[B]?=some (.cells (wdV d ms ds) 85 (0,0)) from (by rw [←HV.out];exact hSw));go_simp)) HC.out ?_;(try simp only [Act.put,lA,lZ,lS]))
 (refine tkD (i:=2) (v:=.pointer (some ⟨B,7,none⟩)) 69 rfl (fun w hSw=>(by obtain ⟨c0,c1,c2,c3,c4,c5,c6,c7,c8,c9,c10,c11,c12,c13,c14,c15,c16,c17,c18,c19,c20,c21,c22,c23,c24,c25,c26,c27,c28,c29,c30,c31,c32,c33,c34,c35,c36⟩:=wbox (show w.heap[B]?=some (.cells (wdV d ms ds) 85 (0,0)) from (by rw [←HV.out];exact hSw));go_simp)) HC.out ?_;(try simp only [Act.put,lA,lZ,lS]))
 (refine tkD (i:=3) (v:=aI aK d.err) 70 rfl (fun w hSw=>(by obtain ⟨c0,c1,c2,c3,c4,c5,c6,c7,c8,c9,c10,c11,c12,c13,c14,c15,c16,c17,c18,c19,c20,c21,c22,c23,c24,c25,c26,c27,c28,c29,c30,c31,c32,c33,c34,c35,c36⟩:=wbox (show w.heap[B]?=some (.cells (wdV d ms ds) 85 (0,0)) from (by rw [←HV.out];exact hSw));go_simp)) HC.out ?_;(try simp only [Act.put,lA,lZ,lS]))
 (refine tkD (i:=4) (v:=.pointer (some ⟨B,22,none⟩)) 71 rfl (fun w hSw=>(by obtain ⟨c0,c1,c2,c3,c4,c5,c6,c7,c8,c9,c10,c11,c12,c13,c14,c15,c16,c17,c18,c19,c20,c21,c22,c23,c24,c25,c26,c27,c28,c29,c30,c31,c32,c33,c34,c35,c36⟩:=wbox (show w.heap[B]?=some (.cells (wdV d ms ds) 85 (0,0)) from (by rw [←HV.out];exact hSw));go_simp)) HC.out ?_;(try simp only [Act.put,lA,lZ,lS]))
 (refine tkD (i:=5) (v:=.agg #[aI aK d.rep.err,aI aK d.rep.id,aI aK d.rep.i.a,aI aK d.rep.i.b,aI aK d.rep.i.c,aI aK d.rep.i.d]) 72 rfl (fun w hSw=>(by obtain ⟨c0,c1,c2,c3,c4,c5,c6,c7,c8,c9,c10,c11,c12,c13,c14,c15,c16,c17,c18,c19,c20,c21,c22,c23,c24,c25,c26,c27,c28,c29,c30,c31,c32,c33,c34,c35,c36⟩:=wbox (show w.heap[B]?=some (.cells (wdV d ms ds) 85 (0,0)) from (by rw [←HV.out];exact hSw));go_simp)) HC.out ?_;(try simp only [Act.put,lA,lZ,lS]))
 (refine tkD (i:=6) (v:=.pointer (some ⟨B,6,none⟩)) 73 rfl (fun w hSw=>(by obtain ⟨c0,c1,c2,c3,c4,c5,c6,c7,c8,c9,c10,c11,c12,c13,c14,c15,c16,c17,c18,c19,c20,c21,c22,c23,c24,c25,c26,c27,c28,c29,c30,c31,c32,c33,c34,c35,c36⟩:=wbox (show w.heap[B]?=some (.cells (wdV d ms ds) 85 (0,0)) from (by rw [←HV.out];exact hSw));go_simp)) HC.out ?_;(try simp only [Act.put,lA,lZ,lS]))
 (refine tkD (i:=7) (v:=aI aK d.host) 74 rfl (fun w hSw=>(by obtain ⟨c0,c1,c2,c3,c4,c5,c6,c7,c8,c9,c10,c11,c12,c13,c14,c15,c16,c17,c18,c19,c20,c21,c22,c23,c24,c25,c26,c27,c28,c29,c30,c31,c32,c33,c34,c35,c36⟩:=wbox (show w.heap[B]?=some (.cells (wdV d ms ds) 85 (0,0)) from (by rw [←HV.out];exact hSw));go_simp)) HC.out ?_;(try simp only [Act.put,lA,lZ,lS]))
 (refine tkD (i:=8) (v:=.pointer (some ⟨P,9,none⟩)) 75 rfl (fun w hSw=>(by obtain ⟨c0,c1,c2,c3,c4,c5,c6,c7,c8,c9,c10,c11,c12,c13,c14,c15,c16,c17,c18,c19,c20,c21,c22,c23,c24,c25,c26,c27,c28,c29,c30,c31,c32,c33,c34,c35,c36⟩:=wbox (show w.heap[B]?=some (.cells (wdV d ms ds) 85 (0,0)) from (by rw [←HV.out];exact hSw));go_simp)) HC.out ?_;(try simp only [Act.put,lA,lZ,lS]))
 (refine oneD 9 rfl (fun K' hK'=>?_))
 ((obtain ⟨p1,p2,p3⟩:=S.out.a0b 0 rfl);go_simp;(refine hK' _ _ ⟨?_,a0k fun w5 hw5=>?_⟩);(exact (((((((((((((S.out.setObj 9 (aI aK d.op.kind)).setObj 10 (aI aK d.op.client)).setObj 11 (aI aK d.op.seq)).setObj 12 (aS d.op.key)).setObj 13 (aS d.op.who)).setObj 14 (aS d.op.tkey)).setObj 15 (aS d.op.twho)).setObj 16 (aI aK d.op.item)).setObj 17 (aI aK d.op.count)).setObj 18 (aI aK d.op.price)).setObj 19 (.bool d.op.buy)).setObj 20 (aI aK d.op.id)).pull (A:=[_])).head);(have S:=uH (((((((((((((S.out.setObj 9 (aI aK d.op.kind)).setObj 10 (aI aK d.op.client)).setObj 11 (aI aK d.op.seq)).setObj 12 (aS d.op.key)).setObj 13 (aS d.op.who)).setObj 14 (aS d.op.tkey)).setObj 15 (aS d.op.twho)).setObj 16 (aI aK d.op.item)).setObj 17 (aI aK d.op.count)).setObj 18 (aI aK d.op.price)).setObj 19 (.bool d.op.buy)).setObj 20 (aI aK d.op.id))));(rw [←hw5] at S);(simp only [lA,lZ,lS] at S);(have HC:Hid (w5.heap[B]?=some (.cells V 85 (0,0))):=uH (S.out.pull (A:=[_])).head);clear hw5 p1 p2 p3 hK' K';(try simp only [Act.put,lA,lZ,lS]))
 (refine tkD (i:=10) (v:=.pointer (some ⟨P,6,none⟩)) 76 rfl (fun w hSw=>(by obtain ⟨c0,c1,c2,c3,c4,c5,c6,c7,c8,c9,c10,c11,c12,c13,c14,c15,c16,c17,c18,c19,c20,c21,c22,c23,c24,c25,c26,c27,c28,c29,c30,c31,c32,c33,c34,c35,c36⟩:=wbox (show w.heap[B]?=some (.cells (wdV d ms ds) 85 (0,0)) from (by rw [←HV.out];exact hSw));go_simp)) HC.out ?_;(try simp only [Act.put,lA,lZ,lS]))
 (refine oneD 11 rfl (fun K' hK'=>?_))
 ((obtain ⟨p1,p2,p3⟩:=S.out.a0b 0 rfl);go_simp;(refine hK' _ _ ⟨?_,a0k fun w5 hw5=>?_⟩);(exact ((S.out.setObj 6 (aI aK d.err)).pull (A:=[_])).head);(have S:=uH ((S.out.setObj 6 (aI aK d.err))));(rw [←hw5] at S);(simp only [lA,lZ,lS] at S);(have HC:Hid (w5.heap[B]?=some (.cells V 85 (0,0))):=uH (S.out.pull (A:=[_])).head);clear hw5 p1 p2 p3 hK' K';(try simp only [Act.put,lA,lZ,lS]))
 (refine tkD (i:=12) (v:=.pointer (some ⟨P,21,none⟩)) 77 rfl (fun w hSw=>(by obtain ⟨c0,c1,c2,c3,c4,c5,c6,c7,c8,c9,c10,c11,c12,c13,c14,c15,c16,c17,c18,c19,c20,c21,c22,c23,c24,c25,c26,c27,c28,c29,c30,c31,c32,c33,c34,c35,c36⟩:=wbox (show w.heap[B]?=some (.cells (wdV d ms ds) 85 (0,0)) from (by rw [←HV.out];exact hSw));go_simp)) HC.out ?_;(try simp only [Act.put,lA,lZ,lS]))
 (refine oneD 13 rfl (fun K' hK'=>?_))
 ((obtain ⟨p1,p2,p3⟩:=S.out.a0b 0 rfl);go_simp;(refine hK' _ _ ⟨?_,a0k fun w5 hw5=>?_⟩);(exact (((((((S.out.setObj 21 (aI aK d.rep.err)).setObj 22 (aI aK d.rep.id)).setObj 23 (aI aK d.rep.i.a)).setObj 24 (aI aK d.rep.i.b)).setObj 25 (aI aK d.rep.i.c)).setObj 26 (aI aK d.rep.i.d)).pull (A:=[_])).head);(have S:=uH (((((((S.out.setObj 21 (aI aK d.rep.err)).setObj 22 (aI aK d.rep.id)).setObj 23 (aI aK d.rep.i.a)).setObj 24 (aI aK d.rep.i.b)).setObj 25 (aI aK d.rep.i.c)).setObj 26 (aI aK d.rep.i.d))));(rw [←hw5] at S);(simp only [lA,lZ,lS] at S);(have HC:Hid (w5.heap[B]?=some (.cells V 85 (0,0))):=uH (S.out.pull (A:=[_])).head);clear hw5 p1 p2 p3 hK' K';(try simp only [Act.put,lA,lZ,lS]))
 (refine tkD (i:=14) (v:=.pointer (some ⟨P,5,none⟩)) 78 rfl (fun w hSw=>(by obtain ⟨c0,c1,c2,c3,c4,c5,c6,c7,c8,c9,c10,c11,c12,c13,c14,c15,c16,c17,c18,c19,c20,c21,c22,c23,c24,c25,c26,c27,c28,c29,c30,c31,c32,c33,c34,c35,c36⟩:=wbox (show w.heap[B]?=some (.cells (wdV d ms ds) 85 (0,0)) from (by rw [←HV.out];exact hSw));go_simp)) HC.out ?_;(try simp only [Act.put,lA,lZ,lS]))
 (refine oneD 15 rfl (fun K' hK'=>?_))
 ((obtain ⟨p1,p2,p3⟩:=S.out.a0b 0 rfl);go_simp;(refine hK' _ _ ⟨?_,a0k fun w5 hw5=>?_⟩);(exact ((S.out.setObj 5 (aI aK d.host)).pull (A:=[_])).head);(have S:=uH ((S.out.setObj 5 (aI aK d.host))));(rw [←hw5] at S);(simp only [lA,lZ,lS] at S);(have HC:Hid (w5.heap[B]?=some (.cells V 85 (0,0))):=uH (S.out.pull (A:=[_])).head);clear hw5 p1 p2 p3 hK' K';(try simp only [Act.put,lA,lZ,lS]))
 ((refine wpAnyH_done (by kernel_rfl) ?_ _);(refine NoPanic.normal ?_);(go_wp2_with fail))
 exact hT _ ({ pl0 with op:=d.op,err:=d.err,rep:=d.rep,host:=d.host }) (ansW d) false false _ _ _ _ _ _ _ _ _ _ _ _ _ _ _ _ _ _ _ _ _ _ _ _ _ _ _ _ _ _ _ _ _ _ _ _ _ _ _ _ _ _ _ _ _ _ _ _ _ _ _ _ _ _ _ _ _ _ _ _ _ _ _ _ _ _ _ _ _ _ _ _ _ _ _ _ _ _ _ _ _ _ _ _ _ _ _ _ _ _ _ _ _ _ _ _ _ _ _ _ _ _ _ _ _ _ _ _ _ _ _ _ _ _ _ _ _ _ _ _ _ _ _ _ _ _ _ _ _ _ _ _ _ _ _ _ _ _ _ S.out hr
end Go.Proofs.YtogamdaomdoapaaGreat