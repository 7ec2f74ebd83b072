/- Texts put together: WK3. -/
import Derived.Test.YtogamdaomdoapaaGreatGa19
namespace Go.Proofs.YtogamdaomdoapaaGreat
open Go.Value renaming int→aI
open Go.IntKind renaming i64→aK
open List renaming setIfInBounds_toArray→lA,set_cons_zero→lZ,set_cons_succ→lS
open Go.Lib renaming hid→uH
set_option maxRecDepth 20000
open Go.RowKit
set_option maxHeartbeats 4000000 in
theorem may_k9 {c:Code} (hb:(Tryz.f69).body=some c) {d:Wd} {ms ds:Value} {V:Array Value} (hV:V=wdV d ms ds) (w wa:World) (B P n:Nat) (dB mB:Bool) (hk:d.kind=9)
 (H:Hid (KdSt w wa B P V)) (r:Bool) (hr:r=(okW d&&eqPl d.pl (a0v d)&&(dB==hasD d.kind)&&(mB==hasM d.kind)&&decide (n≤131072)))
 {K2:Act→World→Prop} {Q:Exit→Act→World→Prop} (hT:g0d K2 w V B P dB mB r d n):KdGo c K2 Q V B P dB mB wa:=by
 unfold KdSt at H
 unfold KdGo
 intros
 have hs:V.size=37:=by rw [hV];rfl
 have HV:=uH hV
 clear hV
 have e1:okW d=(e0j d):=by simp [okW,hk]
 have e2:a0v d={ pl0 with zone:=d.zone,epoch:=d.epoch,index:=d.index }:=by simp [a0v,hk]
 have e3:hasD d.kind=true:=by simp [hasD,hk]
 have e4:hasM d.kind=false:=by simp [hasM,hk]
 rw [e1,e2,e3,e4] at hr
 clear e1 e2 e3 e4
 cases hb
 simp only [sndC,fstC]
 have S:=H
 clear H
 obtain ⟨c0,c1,c2,c3,c4,c5,c6,c7,c8,c9,c10,c11,c12,c13,c14,c15,c16,c17,c18,c19,c20,c21,c22,c23,c24,c25,c26,c27,c28,c29,c30,c31,c32,c33,c34,c35,c36⟩:=wbox (show wa.heap[B]?=some (.cells (wdV d ms ds) 85 (0,0)) from (by rw [←HV.out];exact (S.out.pull (A:=[_])).head))
 rw [hk] at c0
 clear c1 c2 c3 c4 c5 c6 c7 c8 c9 c10 c11 c12 c13 c14 c15 c16 c17 c18 c19 c20 c21 c22 c23 c24 c25 c26 c27 c28 c29 c30 c31 c32 c33 c34 c35 c36
 refine a0a fun C HC=>?_
 go_wp2_with fail
 (have hC:=HC.out);clear HC;subst hC
 clear c0
 refine wp_block ?_
 iterate 8 ((refine a0a fun C HC=>?_);(go_wp2_with fail);(have hC:=HC.out);clear HC;subst hC;(refine wp_cond_false rfl ?_))
 ((refine a0a fun C HC=>?_);(go_wp2_with fail);(have hC:=HC.out);clear HC;subst hC;(refine wp_cond_true rfl ?_))
 refine a0a fun C2 HC2=>?_
 refine wp_seq ?_
 refine wp_region_lit ?_
 (refine wpList_load_row rfl 85 _ rfl B rfl _ _ _ _ ((S.out.pull (A:=[_])).head) Tryz.underlying85 rfl (by rw [hs];kernel_rfl) ?_)
 go_wp2_with fail
 refine (m0s HV.out _).mono ?_
 rintro e w5 ⟨rfl,hb5⟩
 have S:=uH (S.out.grow hb5)
 clear hb5
 go_wp2_with fail
 (have hC:=HC2.out);clear HC2;subst hC
 refine a0d fun wb hwb=>?_
 subst hwb
 ((obtain ⟨wd,hwd⟩:∃ wd,wd=wb.drew:=⟨_,rfl⟩);(have S:=uH (S.out.grow (w':=wd) (by rw [hwd];exact (Below.refl _ _).drew)));(have HC:Hid (wd.heap[B]?=some (.cells V 85 (0,0))):=uH (S.out.pull (A:=[_])).head);(refine wp_region_noPanic ?_);(refine wp_region_held (S:=(fun W:World=>W.heap[B]?=some (.cells V 85 (0,0)))) (by kernel_rfl) ?_);change wpAnyH _ _ _ _ _ _ _ _ (World.drew _);(rw [←hwd]);clear hwd)
 (refine tkD (i:=0) (v:=.pointer (some ⟨B,1,none⟩)) 126 rfl (fun w hSw=>(by obtain ⟨c0,c1,c2,c3,c4,c5,c6,c7,c8,c9,c10,c11,c12,c13,c14,c15,c16,c17,c18,c19,c20,c21,c22,c23,c24,c25,c26,c27,c28,c29,c30,c31,c32,c33,c34,c35,c36⟩:=wbox (show w.heap[B]?=some (.cells (wdV d ms ds) 85 (0,0)) from (by rw [←HV.out];exact hSw));go_simp)) HC.out ?_;(try simp only [Act.put,lA,lZ,lS]))
 (refine tkD (i:=1) (v:=aI aK d.zone) 127 rfl (fun w hSw=>(by obtain ⟨c0,c1,c2,c3,c4,c5,c6,c7,c8,c9,c10,c11,c12,c13,c14,c15,c16,c17,c18,c19,c20,c21,c22,c23,c24,c25,c26,c27,c28,c29,c30,c31,c32,c33,c34,c35,c36⟩:=wbox (show w.heap[B]?=some (.cells (wdV d ms ds) 85 (0,0)) from (by rw [←HV.out];exact hSw));go_simp)) HC.out ?_;(try simp only [Act.put,lA,lZ,lS]))
 (refine tkD (i:=2) (v:=.pointer (some ⟨B,2,none⟩)) 128 rfl (fun w hSw=>(by obtain ⟨c0,c1,c2,c3,c4,c5,c6,c7,c8,c9,c10,c11,c12,c13,c14,c15,c16,c17,c18,c19,c20,c21,c22,c23,c24,c25,c26,c27,c28,c29,c30,c31,c32,c33,c34,c35,c36⟩:=wbox (show w.heap[B]?=some (.cells (wdV d ms ds) 85 (0,0)) from (by rw [←HV.out];exact hSw));go_simp)) HC.out ?_;(try simp only [Act.put,lA,lZ,lS]))
 (refine tkD (i:=3) (v:=aI aK d.epoch) 129 rfl (fun w hSw=>(by obtain ⟨c0,c1,c2,c3,c4,c5,c6,c7,c8,c9,c10,c11,c12,c13,c14,c15,c16,c17,c18,c19,c20,c21,c22,c23,c24,c25,c26,c27,c28,c29,c30,c31,c32,c33,c34,c35,c36⟩:=wbox (show w.heap[B]?=some (.cells (wdV d ms ds) 85 (0,0)) from (by rw [←HV.out];exact hSw));go_simp)) HC.out ?_;(try simp only [Act.put,lA,lZ,lS]))
 (refine tkD (i:=4) (v:=.pointer (some ⟨B,3,none⟩)) 130 rfl (fun w hSw=>(by obtain ⟨c0,c1,c2,c3,c4,c5,c6,c7,c8,c9,c10,c11,c12,c13,c14,c15,c16,c17,c18,c19,c20,c21,c22,c23,c24,c25,c26,c27,c28,c29,c30,c31,c32,c33,c34,c35,c36⟩:=wbox (show w.heap[B]?=some (.cells (wdV d ms ds) 85 (0,0)) from (by rw [←HV.out];exact hSw));go_simp)) HC.out ?_;(try simp only [Act.put,lA,lZ,lS]))
 (refine tkD (i:=5) (v:=aI aK d.index) 131 rfl (fun w hSw=>(by obtain ⟨c0,c1,c2,c3,c4,c5,c6,c7,c8,c9,c10,c11,c12,c13,c14,c15,c16,c17,c18,c19,c20,c21,c22,c23,c24,c25,c26,c27,c28,c29,c30,c31,c32,c33,c34,c35,c36⟩:=wbox (show w.heap[B]?=some (.cells (wdV d ms ds) 85 (0,0)) from (by rw [←HV.out];exact hSw));go_simp)) HC.out ?_;(try simp only [Act.put,lA,lZ,lS]))
 (refine tkD (i:=6) (v:=.pointer (some ⟨P,0,none⟩)) 132 rfl (fun w hSw=>(by obtain ⟨c0,c1,c2,c3,c4,c5,c6,c7,c8,c9,c10,c11,c12,c13,c14,c15,c16,c17,c18,c19,c20,c21,c22,c23,c24,c25,c26,c27,c28,c29,c30,c31,c32,c33,c34,c35,c36⟩:=wbox (show w.heap[B]?=some (.cells (wdV d ms ds) 85 (0,0)) from (by rw [←HV.out];exact hSw));go_simp)) HC.out ?_;(try simp only [Act.put,lA,lZ,lS]))
 (refine oneD 7 rfl (fun K' hK'=>?_))
 ((obtain ⟨p1,p2,p3⟩:=S.out.a0b 0 rfl);go_simp;(refine hK' _ _ ⟨?_,a0k fun w5 hw5=>?_⟩);(exact ((S.out.setObj 0 (aI aK d.zone)).pull (A:=[_])).head);(have S:=uH ((S.out.setObj 0 (aI aK d.zone))));(rw [←hw5] at S);(simp only [lA,lZ] at S);(have HC:Hid (w5.heap[B]?=some (.cells V 85 (0,0))):=uH (S.out.pull (A:=[_])).head);clear hw5 p1 p2 p3 hK' K';(try simp only [Act.put,lA,lZ,lS]))
 (refine tkD (i:=8) (v:=.pointer (some ⟨P,1,none⟩)) 133 rfl (fun w hSw=>(by obtain ⟨c0,c1,c2,c3,c4,c5,c6,c7,c8,c9,c10,c11,c12,c13,c14,c15,c16,c17,c18,c19,c20,c21,c22,c23,c24,c25,c26,c27,c28,c29,c30,c31,c32,c33,c34,c35,c36⟩:=wbox (show w.heap[B]?=some (.cells (wdV d ms ds) 85 (0,0)) from (by rw [←HV.out];exact hSw));go_simp)) HC.out ?_;(try simp only [Act.put,lA,lZ,lS]))
 (refine oneD 9 rfl (fun K' hK'=>?_))
 ((obtain ⟨p1,p2,p3⟩:=S.out.a0b 0 rfl);go_simp;(refine hK' _ _ ⟨?_,a0k fun w5 hw5=>?_⟩);(exact ((S.out.setObj 1 (aI aK d.epoch)).pull (A:=[_])).head);(have S:=uH ((S.out.setObj 1 (aI aK d.epoch))));(rw [←hw5] at S);(simp only [lA,lZ,lS] at S);(have HC:Hid (w5.heap[B]?=some (.cells V 85 (0,0))):=uH (S.out.pull (A:=[_])).head);clear hw5 p1 p2 p3 hK' K';(try simp only [Act.put,lA,lZ,lS]))
 (refine tkD (i:=10) (v:=.pointer (some ⟨P,2,none⟩)) 134 rfl (fun w hSw=>(by obtain ⟨c0,c1,c2,c3,c4,c5,c6,c7,c8,c9,c10,c11,c12,c13,c14,c15,c16,c17,c18,c19,c20,c21,c22,c23,c24,c25,c26,c27,c28,c29,c30,c31,c32,c33,c34,c35,c36⟩:=wbox (show w.heap[B]?=some (.cells (wdV d ms ds) 85 (0,0)) from (by rw [←HV.out];exact hSw));go_simp)) HC.out ?_;(try simp only [Act.put,lA,lZ,lS]))
 (refine oneD 11 rfl (fun K' hK'=>?_))
 ((obtain ⟨p1,p2,p3⟩:=S.out.a0b 0 rfl);go_simp;(refine hK' _ _ ⟨?_,a0k fun w5 hw5=>?_⟩);(exact ((S.out.setObj 2 (aI aK d.index)).pull (A:=[_])).head);(have S:=uH ((S.out.setObj 2 (aI aK d.index))));(rw [←hw5] at S);(simp only [lA,lZ,lS] at S);(have HC:Hid (w5.heap[B]?=some (.cells V 85 (0,0))):=uH (S.out.pull (A:=[_])).head);clear hw5 p1 p2 p3 hK' K';(try simp only [Act.put,lA,lZ,lS]))
 ((refine wpAnyH_done (by kernel_rfl) ?_ _);(refine NoPanic.normal ?_);(go_wp2_with fail))
 exact hT _ ({ pl0 with zone:=d.zone,epoch:=d.epoch,index:=d.index }) (e0j d) true false _ _ _ _ _ _ _ _ _ _ _ _ _ _ _ _ _ _ _ _ _ _ _ _ _ _ _ _ _ _ _ _ _ _ _ _ _ _ _ _ _ _ _ _ _ _ _ _ _ _ _ _ _ _ _ _ _ _ _ _ _ _ _ _ _ _ _ _ _ _ _ _ _ _ _ _ _ _ _ _ _ _ _ _ _ _ _ _ _ _ _ _ _ _ _ _ _ _ _ _ _ _ _ _ _ _ _ _ _ _ _ _ _ _ _ _ _ _ _ _ _ _ _ _ _ _ _ _ _ _ _ _ _ _ _ _ _ _ _ S.out hr
set_option maxHeartbeats 4000000 in
theorem may_k10 {c:Code} (hb:(Tryz.f69).body=some c) {d:Wd} {ms ds:Value} {V:Array Value} (hV:V=wdV d ms ds) (w wa:World) (B P n:Nat) (dB mB:Bool) (hk:d.kind=10)
 (H:Hid (KdSt w wa B P V)) (r:Bool) (hr:r=(okW d&&eqPl d.pl (a0v d)&&(dB==hasD d.kind)&&(mB==hasM d.kind)&&decide (n≤131072)))
 {K2:Act→World→Prop} {Q:Exit→Act→World→Prop} (hT:g0d K2 w V B P dB mB r d n):KdGo c K2 Q V B P dB mB wa:=by
 unfold KdSt at H
 unfold KdGo
 intros
 have hs:V.size=37:=by rw [hV];rfl
 have HV:=uH hV
 clear hV
 have e1:okW d=(e0j d):=by simp [okW,hk]
 have e2:a0v d={ pl0 with zone:=d.zone,epoch:=d.epoch,index:=d.index }:=by simp [a0v,hk]
 have e3:hasD d.kind=false:=by simp [hasD,hk]
 have e4:hasM d.kind=false:=by simp [hasM,hk]
 rw [e1,e2,e3,e4] at hr
 clear e1 e2 e3 e4
 cases hb
 simp only [sndC,fstC]
 have S:=H
 clear H
 obtain ⟨c0,c1,c2,c3,c4,c5,c6,c7,c8,c9,c10,c11,c12,c13,c14,c15,c16,c17,c18,c19,c20,c21,c22,c23,c24,c25,c26,c27,c28,c29,c30,c31,c32,c33,c34,c35,c36⟩:=wbox (show wa.heap[B]?=some (.cells (wdV d ms ds) 85 (0,0)) from (by rw [←HV.out];exact (S.out.pull (A:=[_])).head))
 rw [hk] at c0
 clear c1 c2 c3 c4 c5 c6 c7 c8 c9 c10 c11 c12 c13 c14 c15 c16 c17 c18 c19 c20 c21 c22 c23 c24 c25 c26 c27 c28 c29 c30 c31 c32 c33 c34 c35 c36
 refine a0a fun C HC=>?_
 go_wp2_with fail
 (have hC:=HC.out);clear HC;subst hC
 clear c0
 refine wp_block ?_
 iterate 9 ((refine a0a fun C HC=>?_);(go_wp2_with fail);(have hC:=HC.out);clear HC;subst hC;(refine wp_cond_false rfl ?_))
 ((refine a0a fun C HC=>?_);(go_wp2_with fail);(have hC:=HC.out);clear HC;subst hC;(refine wp_cond_true rfl ?_))
 refine a0a fun C2 HC2=>?_
 refine wp_seq ?_
 refine wp_region_lit ?_
 (refine wpList_load_row rfl 85 _ rfl B rfl _ _ _ _ ((S.out.pull (A:=[_])).head) Tryz.underlying85 rfl (by rw [hs];kernel_rfl) ?_)
 go_wp2_with fail
 refine (m0s HV.out _).mono ?_
 rintro e w5 ⟨rfl,hb5⟩
 have S:=uH (S.out.grow hb5)
 clear hb5
 go_wp2_with fail
 (have hC:=HC2.out);clear HC2;subst hC
 refine a0d fun wb hwb=>?_
 subst hwb
 ((obtain ⟨wd,hwd⟩:∃ wd,wd=wb.drew:=⟨_,rfl⟩);(have S:=uH (S.out.grow (w':=wd) (by rw [hwd];exact (Below.refl _ _).drew)));(have HC:Hid (wd.heap[B]?=some (.cells V 85 (0,0))):=uH (S.out.pull (A:=[_])).head);(refine wp_region_noPanic ?_);(refine wp_region_held (S:=(fun W:World=>W.heap[B]?=some (.cells V 85 (0,0)))) (by kernel_rfl) ?_);change wpAnyH _ _ _ _ _ _ _ _ (World.drew _);(rw [←hwd]);clear hwd)
 (refine tkD (i:=0) (v:=.pointer (some ⟨B,1,none⟩)) 139 rfl (fun w hSw=>(by obtain ⟨c0,c1,c2,c3,c4,c5,c6,c7,c8,c9,c10,c11,c12,c13,c14,c15,c16,c17,c18,c19,c20,c21,c22,c23,c24,c25,c26,c27,c28,c29,c30,c31,c32,c33,c34,c35,c36⟩:=wbox (show w.heap[B]?=some (.cells (wdV d ms ds) 85 (0,0)) from (by rw [←HV.out];exact hSw));go_simp)) HC.out ?_;(try simp only [Act.put,lA,lZ,lS]))
 (refine tkD (i:=1) (v:=aI aK d.zone) 140 rfl (fun w hSw=>(by obtain ⟨c0,c1,c2,c3,c4,c5,c6,c7,c8,c9,c10,c11,c12,c13,c14,c15,c16,c17,c18,c19,c20,c21,c22,c23,c24,c25,c26,c27,c28,c29,c30,c31,c32,c33,c34,c35,c36⟩:=wbox (show w.heap[B]?=some (.cells (wdV d ms ds) 85 (0,0)) from (by rw [←HV.out];exact hSw));go_simp)) HC.out ?_;(try simp only [Act.put,lA,lZ,lS]))
 (refine tkD (i:=2) (v:=.pointer (some ⟨B,2,none⟩)) 141 rfl (fun w hSw=>(by obtain ⟨c0,c1,c2,c3,c4,c5,c6,c7,c8,c9,c10,c11,c12,c13,c14,c15,c16,c17,c18,c19,c20,c21,c22,c23,c24,c25,c26,c27,c28,c29,c30,c31,c32,c33,c34,c35,c36⟩:=wbox (show w.heap[B]?=some (.cells (wdV d ms ds) 85 (0,0)) from (by rw [←HV.out];exact hSw));go_simp)) HC.out ?_;(try simp only [Act.put,lA,lZ,lS]))
 (refine tkD (i:=3) (v:=aI aK d.epoch) 142 rfl (fun w hSw=>(by obtain ⟨c0,c1,c2,c3,c4,c5,c6,c7,c8,c9,c10,c11,c12,c13,c14,c15,c16,c17,c18,c19,c20,c21,c22,c23,c24,c25,c26,c27,c28,c29,c30,c31,c32,c33,c34,c35,c36⟩:=wbox (show w.heap[B]?=some (.cells (wdV d ms ds) 85 (0,0)) from (by rw [←HV.out];exact hSw));go_simp)) HC.out ?_;(try simp only [Act.put,lA,lZ,lS]))
 (refine tkD (i:=4) (v:=.pointer (some ⟨B,3,none⟩)) 143 rfl (fun w hSw=>(by obtain ⟨c0,c1,c2,c3,c4,c5,c6,c7,c8,c9,c10,c11,c12,c13,c14,c15,c16,c17,c18,c19,c20,c21,c22,c23,c24,c25,c26,c27,c28,c29,c30,c31,c32,c33,c34,c35,c36⟩:=wbox (show w.heap[B]?=some (.cells (wdV d ms ds) 85 (0,0)) from (by rw [←HV.out];exact hSw));go_simp)) HC.out ?_;(try simp only [Act.put,lA,lZ,lS]))
 (refine tkD (i:=5) (v:=aI aK d.index) 144 rfl (fun w hSw=>(by obtain ⟨c0,c1,c2,c3,c4,c5,c6,c7,c8,c9,c10,c11,c12,c13,c14,c15,c16,c17,c18,c19,c20,c21,c22,c23,c24,c25,c26,c27,c28,c29,c30,c31,c32,c33,c34,c35,c36⟩:=wbox (show w.heap[B]?=some (.cells (wdV d ms ds) 85 (0,0)) from (by rw [←HV.out];exact hSw));go_simp)) HC.out ?_;(try simp only [Act.put,lA,lZ,lS]))
 (refine tkD (i:=6) (v:=.pointer (some ⟨P,0,none⟩)) 145 rfl (fun w hSw=>(by obtain ⟨c0,c1,c2,c3,c4,c5,c6,c7,c8,c9,c10,c11,c12,c13,c14,c15,c16,c17,c18,c19,c20,c21,c22,c23,c24,c25,c26,c27,c28,c29,c30,c31,c32,c33,c34,c35,c36⟩:=wbox (show w.heap[B]?=some (.cells (wdV d ms ds) 85 (0,0)) from (by rw [←HV.out];exact hSw));go_simp)) HC.out ?_;(try simp only [Act.put,lA,lZ,lS]))
 (refine oneD 7 rfl (fun K' hK'=>?_))
 ((obtain ⟨p1,p2,p3⟩:=S.out.a0b 0 rfl);go_simp;(refine hK' _ _ ⟨?_,a0k fun w5 hw5=>?_⟩);(exact ((S.out.setObj 0 (aI aK d.zone)).pull (A:=[_])).head);(have S:=uH ((S.out.setObj 0 (aI aK d.zone))));(rw [←hw5] at S);(simp only [lA,lZ] at S);(have HC:Hid (w5.heap[B]?=some (.cells V 85 (0,0))):=uH (S.out.pull (A:=[_])).head);clear hw5 p1 p2 p3 hK' K';(try simp only [Act.put,lA,lZ,lS]))
 (refine tkD (i:=8) (v:=.pointer (some ⟨P,1,none⟩)) 146 rfl (fun w hSw=>(by obtain ⟨c0,c1,c2,c3,c4,c5,c6,c7,c8,c9,c10,c11,c12,c13,c14,c15,c16,c17,c18,c19,c20,c21,c22,c23,c24,c25,c26,c27,c28,c29,c30,c31,c32,c33,c34,c35,c36⟩:=wbox (show w.heap[B]?=some (.cells (wdV d ms ds) 85 (0,0)) from (by rw [←HV.out];exact hSw));go_simp)) HC.out ?_;(try simp only [Act.put,lA,lZ,lS]))
 (refine oneD 9 rfl (fun K' hK'=>?_))
 ((obtain ⟨p1,p2,p3⟩:=S.out.a0b 0 rfl);go_simp;(refine hK' _ _ ⟨?_,a0k fun w5 hw5=>?_⟩);(exact ((S.out.setObj 1 (aI aK d.epoch)).pull (A:=[_])).head);(have S:=uH ((S.out.setObj 1 (aI aK d.epoch))));(rw [←hw5] at S);(simp only [lA,lZ,lS] at S);(have HC:Hid (w5.heap[B]?=some (.cells V 85 (0,0))):=uH (S.out.pull (A:=[_])).head);clear hw5 p1 p2 p3 hK' K';(try simp only [Act.put,lA,lZ,lS]))
 (refine tkD (i:=10) (v:=.pointer (some ⟨P,2,none⟩)) 147 rfl (fun w hSw=>(by obtain ⟨c0,c1,c2,c3,c4,c5,c6,c7,c8,c9,c10,c11,c12,c13,c14,c15,c16,c17,c18,c19,c20,c21,c22,c23,c24,c25,c26,c27,c28,c29,c30,c31,c32,c33,c34,c35,c36⟩:=wbox (show w.heap[B]?=some (.cells (wdV d ms ds) 85 (0,0)) from (by rw [←HV.out];exact hSw));go_simp)) HC.out ?_;(try simp only [Act.put,lA,lZ,lS]))
 (refine oneD 11 rfl (fun K' hK'=>?_))
 ((obtain ⟨p1,p2,p3⟩:=S.out.a0b 0 rfl);go_simp;(refine hK' _ _ ⟨?_,a0k fun w5 hw5=>?_⟩);(exact ((S.out.setObj 2 (aI aK d.index)).pull (A:=[_])).head);(have S:=uH ((S.out.setObj 2 (aI aK d.index))));(rw [←hw5] at S);(simp only [lA,lZ,lS] at S);(have HC:Hid (w5.heap[B]?=some (.cells V 85 (0,0))):=uH (S.out.pull (A:=[_])).head);clear hw5 p1 p2 p3 hK' K';(try simp only [Act.put,lA,lZ,lS]))
 ((refine wpAnyH_done (by kernel_rfl) ?_ _);(refine NoPanic.normal ?_);(go_wp2_with fail))
 exact hT _ ({ pl0 with zone:=d.zone,epoch:=d.epoch,index:=d.index }) (e0j d) false false _ _ _ _ _ _ _ _ _ _ _ _ _ _ _ _ _ _ _ _ _ _ _ _ _ _ _ _ _ _ _ _ _ _ _ _ _ _ _ _ _ _ _ _ _ _ _ _ _ _ _ _ _ _ _ _ _ _ _ _ _ _ _ _ _ _ _ _ _ _ _ _ _ _ _ _ _ _ _ _ _ _ _ _ _ _ _ _ _ _ _ _ _ _ _ _ _ _ _ _ _ _ _ _ _ _ _ _ _ _ _ _ _ _ _ _ _ _ _ _ _ _ _ _ _ _ _ _ _ _ _ _ _ _ _ _ _ _ _ S.out hr
set_option maxHeartbeats 4000000 in
theorem may_k8 {c:Code} (hb:(Tryz.f69).body=some c) {d:Wd} {ms ds:Value} {V:Array Value} (hV:V=wdV d ms ds) (w wa:World) (B P n:Nat) (dB mB:Bool) (hk:d.kind=8)
 (H:Hid (KdSt w wa B P V)) (r:Bool) (hr:r=(okW d&&eqPl d.pl (a0v d)&&(dB==hasD d.kind)&&(mB==hasM d.kind)&&decide (n≤131072)))
 {K2:Act→World→Prop} {Q:Exit→Act→World→Prop} (hT:g0d K2 w V B P dB mB r d n):KdGo c K2 Q V B P dB mB wa:=by
 unfold KdSt at H
 unfold KdGo
 intros
 have hs:V.size=37:=by rw [hV];rfl
 have HV:=uH hV
 clear hV
 have e1:okW d=(e0j d&&numW d.off):=by simp [okW,hk]
 have e2:a0v d={ pl0 with zone:=d.zone,epoch:=d.epoch,index:=d.index,off:=d.off }:=by simp [a0v,hk]
 have e3:hasD d.kind=false:=by simp [hasD,hk]
 have e4:hasM d.kind=false:=by simp [hasM,hk]
 rw [e1,e2,e3,e4] at hr
 clear e1 e2 e3 e4
 cases hb
 simp only [sndC,fstC]
 have S:=H
 clear H
 obtain ⟨c0,c1,c2,c3,c4,c5,c6,c7,c8,c9,c10,c11,c12,c13,c14,c15,c16,c17,c18,c19,c20,c21,c22,c23,c24,c25,c26,c27,c28,c29,c30,c31,c32,c33,c34,c35,c36⟩:=wbox (show wa.heap[B]?=some (.cells (wdV d ms ds) 85 (0,0)) from (by rw [←HV.out];exact (S.out.pull (A:=[_])).head))
 rw [hk] at c0
 clear c1 c2 c3 c4 c5 c6 c7 c8 c9 c10 c11 c12 c13 c14 c15 c16 c17 c18 c19 c20 c21 c22 c23 c24 c25 c26 c27 c28 c29 c30 c31 c32 c33 c34 c35 c36
 refine a0a fun C HC=>?_
 go_wp2_with fail
 (have hC:=HC.out);clear HC;subst hC
 clear c0
 refine wp_block ?_
 iterate 7 ((refine a0a fun C HC=>?_);(go_wp2_with fail);(have hC:=HC.out);clear HC;subst hC;(refine wp_cond_false rfl ?_))
 ((refine a0a fun C HC=>?_);(go_wp2_with fail);(have hC:=HC.out);clear HC;subst hC;(refine wp_cond_true rfl ?_))
 refine a0a fun C2 HC2=>?_
 refine wp_seq ?_
 refine wp_region_lit ?_
 (refine wpList_load_row rfl 85 _ rfl B rfl _ _ _ _ ((S.out.pull (A:=[_])).head) Tryz.underlying85 rfl (by rw [hs];kernel_rfl) ?_)
 go_wp2_with fail
 refine (m0s HV.out _).mono ?_
 rintro e w5 ⟨rfl,hb5⟩
 have S:=uH (S.out.grow hb5)
 clear hb5
 obtain ⟨c0,c1,c2,c3,c4,c5,c6,c7,c8,c9,c10,c11,c12,c13,c14,c15,c16,c17,c18,c19,c20,c21,c22,c23,c24,c25,c26,c27,c28,c29,c30,c31,c32,c33,c34,c35,c36⟩:=wbox (show w5.heap[B]?=some (.cells (wdV d ms ds) 85 (0,0)) from (by rw [←HV.out];exact (S.out.pull (A:=[_])).head))
 obtain ⟨z,hzz⟩:∃ z,z=e0j d:=⟨_,rfl⟩
 rw [←hzz] at hr ⊢
 clear hzz c0 c1 c2 c3 c4 c6 c7 c8 c9 c10 c11 c12 c13 c14 c15 c16 c17 c18 c19 c20 c21 c22 c23 c24 c25 c26 c27 c28 c29 c30 c31 c32 c33 c34 c35 c36
 cases z with
 | false =>
  go_wp2_with fail
  (have hC:=HC2.out);clear HC2 c5;subst hC
  refine a0d fun wb hwb=>?_
  subst hwb
  ((obtain ⟨wd,hwd⟩:∃ wd,wd=wb.drew:=⟨_,rfl⟩);(have S:=uH (S.out.grow (w':=wd) (by rw [hwd];exact (Below.refl _ _).drew)));(have HC:Hid (wd.heap[B]?=some (.cells V 85 (0,0))):=uH (S.out.pull (A:=[_])).head);(refine wp_region_noPanic ?_);(refine wp_region_held (S:=(fun W:World=>W.heap[B]?=some (.cells V 85 (0,0)))) (by kernel_rfl) ?_);change wpAnyH _ _ _ _ _ _ _ _ (World.drew _);(rw [←hwd]);clear hwd)
  (refine tkD (i:=0) (v:=.pointer (some ⟨B,1,none⟩)) 110 rfl (fun w hSw=>(by obtain ⟨c0,c1,c2,c3,c4,c5,c6,c7,c8,c9,c10,c11,c12,c13,c14,c15,c16,c17,c18,c19,c20,c21,c22,c23,c24,c25,c26,c27,c28,c29,c30,c31,c32,c33,c34,c35,c36⟩:=wbox (show w.heap[B]?=some (.cells (wdV d ms ds) 85 (0,0)) from (by rw [←HV.out];exact hSw));go_simp)) HC.out ?_;(try simp only [Act.put,lA,lZ,lS]))
  (refine tkD (i:=1) (v:=aI aK d.zone) 111 rfl (fun w hSw=>(by obtain ⟨c0,c1,c2,c3,c4,c5,c6,c7,c8,c9,c10,c11,c12,c13,c14,c15,c16,c17,c18,c19,c20,c21,c22,c23,c24,c25,c26,c27,c28,c29,c30,c31,c32,c33,c34,c35,c36⟩:=wbox (show w.heap[B]?=some (.cells (wdV d ms ds) 85 (0,0)) from (by rw [←HV.out];exact hSw));go_simp)) HC.out ?_;(try simp only [Act.put,lA,lZ,lS]))
  (refine tkD (i:=2) (v:=.pointer (some ⟨B,2,none⟩)) 112 rfl (fun w hSw=>(by obtain ⟨c0,c1,c2,c3,c4,c5,c6,c7,c8,c9,c10,c11,c12,c13,c14,c15,c16,c17,c18,c19,c20,c21,c22,c23,c24,c25,c26,c27,c28,c29,c30,c31,c32,c33,c34,c35,c36⟩:=wbox (show w.heap[B]?=some (.cells (wdV d ms ds) 85 (0,0)) from (by rw [←HV.out];exact hSw));go_simp)) HC.out ?_;(try simp only [Act.put,lA,lZ,lS]))
  (refine tkD (i:=3) (v:=aI aK d.epoch) 113 rfl (fun w hSw=>(by obtain ⟨c0,c1,c2,c3,c4,c5,c6,c7,c8,c9,c10,c11,c12,c13,c14,c15,c16,c17,c18,c19,c20,c21,c22,c23,c24,c25,c26,c27,c28,c29,c30,c31,c32,c33,c34,c35,c36⟩:=wbox (show w.heap[B]?=some (.cells (wdV d ms ds) 85 (0,0)) from (by rw [←HV.out];exact hSw));go_simp)) HC.out ?_;(try simp only [Act.put,lA,lZ,lS]))
  (refine tkD (i:=4) (v:=.pointer (some ⟨B,3,none⟩)) 114 rfl (fun w hSw=>(by obtain ⟨c0,c1,c2,c3,c4,c5,c6,c7,c8,c9,c10,c11,c12,c13,c14,c15,c16,c17,c18,c19,c20,c21,c22,c23,c24,c25,c26,c27,c28,c29,c30,c31,c32,c33,c34,c35,c36⟩:=wbox (show w.heap[B]?=some (.cells (wdV d ms ds) 85 (0,0)) from (by rw [←HV.out];exact hSw));go_simp)) HC.out ?_;(try simp only [Act.put,lA,lZ,lS]))
  (refine tkD (i:=5) (v:=aI aK d.index) 115 rfl (fun w hSw=>(by obtain ⟨c0,c1,c2,c3,c4,c5,c6,c7,c8,c9,c10,c11,c12,c13,c14,c15,c16,c17,c18,c19,c20,c21,c22,c23,c24,c25,c26,c27,c28,c29,c30,c31,c32,c33,c34,c35,c36⟩:=wbox (show w.heap[B]?=some (.cells (wdV d ms ds) 85 (0,0)) from (by rw [←HV.out];exact hSw));go_simp)) HC.out ?_;(try simp only [Act.put,lA,lZ,lS]))
  (refine tkD (i:=6) (v:=.pointer (some ⟨B,5,none⟩)) 116 rfl (fun w hSw=>(by obtain ⟨c0,c1,c2,c3,c4,c5,c6,c7,c8,c9,c10,c11,c12,c13,c14,c15,c16,c17,c18,c19,c20,c21,c22,c23,c24,c25,c26,c27,c28,c29,c30,c31,c32,c33,c34,c35,c36⟩:=wbox (show w.heap[B]?=some (.cells (wdV d ms ds) 85 (0,0)) from (by rw [←HV.out];exact hSw));go_simp)) HC.out ?_;(try simp only [Act.put,lA,lZ,lS]))
  (refine tkD (i:=7) (v:=aI aK d.off) 117 rfl (fun w hSw=>(by obtain ⟨c0,c1,c2,c3,c4,c5,c6,c7,c8,c9,c10,c11,c12,c13,c14,c15,c16,c17,c18,c19,c20,c21,c22,c23,c24,c25,c26,c27,c28,c29,c30,c31,c32,c33,c34,c35,c36⟩:=wbox (show w.heap[B]?=some (.cells (wdV d ms ds) 85 (0,0)) from (by rw [←HV.out];exact hSw));go_simp)) HC.out ?_;(try simp only [Act.put,lA,lZ,lS]))
  (refine tkD (i:=8) (v:=.pointer (some ⟨P,0,none⟩)) 118 rfl (fun w hSw=>(by obtain ⟨c0,c1,c2,c3,c4,c5,c6,c7,c8,c9,c10,c11,c12,c13,c14,c15,c16,c17,c18,c19,c20,c21,c22,c23,c24,c25,c26,c27,c28,c29,c30,c31,c32,c33,c34,c35,c36⟩:=wbox (show w.heap[B]?=some (.cells (wdV d ms ds) 85 (0,0)) from (by rw [←HV.out];exact hSw));go_simp)) HC.out ?_;(try simp only [Act.put,lA,lZ,lS]))
  (refine oneD 9 rfl (fun K' hK'=>?_))
  ((obtain ⟨p1,p2,p3⟩:=S.out.a0b 0 rfl);go_simp;(refine hK' _ _ ⟨?_,a0k fun w5 hw5=>?_⟩);(exact ((S.out.setObj 0 (aI aK d.zone)).pull (A:=[_])).head);(have S:=uH ((S.out.setObj 0 (aI aK d.zone))));(rw [←hw5] at S);(simp only [lA,lZ] at S);(have HC:Hid (w5.heap[B]?=some (.cells V 85 (0,0))):=uH (S.out.pull (A:=[_])).head);clear hw5 p1 p2 p3 hK' K';(try simp only [Act.put,lA,lZ,lS]))
  (refine tkD (i:=10) (v:=.pointer (some ⟨P,1,none⟩)) 119 rfl (fun w hSw=>(by obtain ⟨c0,c1,c2,c3,c4,c5,c6,c7,c8,c9,c10,c11,c12,c13,c14,c15,c16,c17,c18,c19,c20,c21,c22,c23,c24,c25,c26,c27,c28,c29,c30,c31,c32,c33,c34,c35,c36⟩:=wbox (show w.heap[B]?=some (.cells (wdV d ms ds) 85 (0,0)) from (by rw [←HV.out];exact hSw));go_simp)) HC.out ?_;(try simp only [Act.put,lA,lZ,lS]))
  (refine oneD 11 rfl (fun K' hK'=>?_))
  ((obtain ⟨p1,p2,p3⟩:=S.out.a0b 0 rfl);go_simp;(refine hK' _ _ ⟨?_,a0k fun w5 hw5=>?_⟩);(exact ((S.out.setObj 1 (aI aK d.epoch)).pull (A:=[_])).head);(have S:=uH ((S.out.setObj 1 (aI aK d.epoch))));(rw [←hw5] at S);(simp only [lA,lZ,lS] at S);(have HC:Hid (w5.heap[B]?=some (.cells V 85 (0,0))):=uH (S.out.pull (A:=[_])).head);clear hw5 p1 p2 p3 hK' K';(try simp only [Act.put,lA,lZ,lS]))
  (refine tkD (i:=12) (v:=.pointer (some ⟨P,2,none⟩)) 120 rfl (fun w hSw=>(by obtain ⟨c0,c1,c2,c3,c4,c5,c6,c7,c8,c9,c10,c11,c12,c13,c14,c15,c16,c17,c18,c19,c20,c21,c22,c23,c24,c25,c26,c27,c28,c29,c30,c31,c32,c33,c34,c35,c36⟩:=wbox (show w.heap[B]?=some (.cells (wdV d ms ds) 85 (0,0)) from (by rw [←HV.out];exact hSw));go_simp)) HC.out ?_;(try simp only [Act.put,lA,lZ,lS]))
  (refine oneD 13 rfl (fun K' hK'=>?_))
  ((obtain ⟨p1,p2,p3⟩:=S.out.a0b 0 rfl);go_simp;(refine hK' _ _ ⟨?_,a0k fun w5 hw5=>?_⟩);(exact ((S.out.setObj 2 (aI aK d.index)).pull (A:=[_])).head);(have S:=uH ((S.out.setObj 2 (aI aK d.index))));(rw [←hw5] at S);(simp only [lA,lZ,lS] at S);(have HC:Hid (w5.heap[B]?=some (.cells V 85 (0,0))):=uH (S.out.pull (A:=[_])).head);clear hw5 p1 p2 p3 hK' K';(try simp only [Act.put,lA,lZ,lS]))
  (refine tkD (i:=14) (v:=.pointer (some ⟨P,4,none⟩)) 121 rfl (fun w hSw=>(by obtain ⟨c0,c1,c2,c3,c4,c5,c6,c7,c8,c9,c10,c11,c12,c13,c14,c15,c16,c17,c18,c19,c20,c21,c22,c23,c24,c25,c26,c27,c28,c29,c30,c31,c32,c33,c34,c35,c36⟩:=wbox (show w.heap[B]?=some (.cells (wdV d ms ds) 85 (0,0)) from (by rw [←HV.out];exact hSw));go_simp)) HC.out ?_;(try simp only [Act.put,lA,lZ,lS]))
  (refine oneD 15 rfl (fun K' hK'=>?_))
  ((obtain ⟨p1,p2,p3⟩:=S.out.a0b 0 rfl);go_simp;(refine hK' _ _ ⟨?_,a0k fun w5 hw5=>?_⟩);(exact ((S.out.setObj 4 (aI aK d.off)).pull (A:=[_])).head);(have S:=uH ((S.out.setObj 4 (aI aK d.off))));(rw [←hw5] at S);(simp only [lA,lZ,lS] at S);(have HC:Hid (w5.heap[B]?=some (.cells V 85 (0,0))):=uH (S.out.pull (A:=[_])).head);clear hw5 p1 p2 p3 hK' K';(try simp only [Act.put,lA,lZ,lS]))
  ((refine wpAnyH_done (by kernel_rfl) ?_ _);(refine NoPanic.normal ?_);(go_wp2_with fail))
  exact hT _ ({ pl0 with zone:=d.zone,epoch:=d.epoch,index:=d.index,off:=d.off }) (false) false false _ _ _ _ _ _ _ _ _ _ _ _ _ _ _ _ _ _ _ _ _ _ _ _ _ _ _ _ _ _ _ _ _ _ _ _ _ _ _ _ _ _ _ _ _ _ _ _ _ _ _ _ _ _ _ _ _ _ _ _ _ _ _ _ _ _ _ _ _ _ _ _ _ _ _ _ _ _ _ _ _ _ _ _ _ _ _ _ _ _ _ _ _ _ _ _ _ _ _ _ _ _ _ _ _ _ _ _ _ _ _ _ _ _ _ _ _ _ _ _ _ _ _ _ _ _ _ _ _ _ _ _ _ _ _ _ _ _ _ S.out hr
 | true =>
  go_wp2_with fail
  refine (s0y d.off _).mono ?_
  rintro e w6 ⟨rfl,rfl⟩
  go_wp2_with fail
  (have hC:=HC2.out);clear HC2 c5;subst hC
  refine a0d fun wb hwb=>?_
  subst hwb
  ((obtain ⟨wd,hwd⟩:∃ wd,wd=wb.drew:=⟨_,rfl⟩);(have S:=uH (S.out.grow (w':=wd) (by rw [hwd];exact (Below.refl _ _).drew)));(have HC:Hid (wd.heap[B]?=some (.cells V 85 (0,0))):=uH (S.out.pull (A:=[_])).head);(refine wp_region_noPanic ?_);(refine wp_region_held (S:=(fun W:World=>W.heap[B]?=some (.cells V 85 (0,0)))) (by kernel_rfl) ?_);change wpAnyH _ _ _ _ _ _ _ _ (World.drew _);(rw [←hwd]);clear hwd)
  (refine tkD (i:=0) (v:=.pointer (some ⟨B,1,none⟩)) 110 rfl (fun w hSw=>(by obtain ⟨c0,c1,c2,c3,c4,c5,c6,c7,c8,c9,c10,c11,c12,c13,c14,c15,c16,c17,c18,c19,c20,c21,c22,c23,c24,c25,c26,c27,c28,c29,c30,c31,c32,c33,c34,c35,c36⟩:=wbox (show w.heap[B]?=some (.cells (wdV d ms ds) 85 (0,0)) from (by rw [←HV.out];exact hSw));go_simp)) HC.out ?_;(try simp only [Act.put,lA,lZ,lS]))
  (refine tkD (i:=1) (v:=aI aK d.zone) 111 rfl (fun w hSw=>(by obtain ⟨c0,c1,c2,c3,c4,c5,c6,c7,c8,c9,c10,c11,c12,c13,c14,c15,c16,c17,c18,c19,c20,c21,c22,c23,c24,c25,c26,c27,c28,c29,c30,c31,c32,c33,c34,c35,c36⟩:=wbox (show w.heap[B]?=some (.cells (wdV d ms ds) 85 (0,0)) from (by rw [←HV.out];exact hSw));go_simp)) HC.out ?_;(try simp only [Act.put,lA,lZ,lS]))
  (refine tkD (i:=2) (v:=.pointer (some ⟨B,2,none⟩)) 112 rfl (fun w hSw=>(by obtain ⟨c0,c1,c2,c3,c4,c5,c6,c7,c8,c9,c10,c11,c12,c13,c14,c15,c16,c17,c18,c19,c20,c21,c22,c23,c24,c25,c26,c27,c28,c29,c30,c31,c32,c33,c34,c35,c36⟩:=wbox (show w.heap[B]?=some (.cells (wdV d ms ds) 85 (0,0)) from (by rw [←HV.out];exact hSw));go_simp)) HC.out ?_;(try simp only [Act.put,lA,lZ,lS]))
  (refine tkD (i:=3) (v:=aI aK d.epoch) 113 rfl (fun w hSw=>(by obtain ⟨c0,c1,c2,c3,c4,c5,c6,c7,c8,c9,c10,c11,c12,c13,c14,c15,c16,c17,c18,c19,c20,c21,c22,c23,c24,c25,c26,c27,c28,c29,c30,c31,c32,c33,c34,c35,c36⟩:=wbox (show w.heap[B]?=some (.cells (wdV d ms ds) 85 (0,0)) from (by rw [←HV.out];exact hSw));go_simp)) HC.out ?_;(try simp only [Act.put,lA,lZ,lS]))
  (refine tkD (i:=4) (v:=.pointer (some ⟨B,3,none⟩)) 114 rfl (fun w hSw=>(by obtain ⟨c0,c1,c2,c3,c4,c5,c6,c7,c8,c9,c10,c11,c12,c13,c14,c15,c16,c17,c18,c19,c20,c21,c22,c23,c24,c25,c26,c27,c28,c29,c30,c31,c32,c33,c34,c35,c36⟩:=wbox (show w.heap[B]?=some (.cells (wdV d ms ds) 85 (0,0)) from (by rw [←HV.out];exact hSw));go_simp)) HC.out ?_;(try simp only [Act.put,lA,lZ,lS]))
  (refine tkD (i:=5) (v:=aI aK d.index) 115 rfl (fun w hSw=>(by obtain ⟨c0,c1,c2,c3,c4,c5,c6,c7,c8,c9,c10,c11,c12,c13,c14,c15,c16,c17,c18,c19,c20,c21,c22,c23,c24,c25,c26,c27,c28,c29,c30,c31,c32,c33,c34,c35,c36⟩:=wbox (show w.heap[B]?=some (.cells (wdV d ms ds) 85 (0,0)) from (by rw [←HV.out];exact hSw));go_simp)) HC.out ?_;(try simp only [Act.put,lA,lZ,lS]))
  (refine tkD (i:=6) (v:=.pointer (some ⟨B,5,none⟩)) 116 rfl (fun w hSw=>(by obtain ⟨c0,c1,c2,c3,c4,c5,c6,c7,c8,c9,c10,c11,c12,c13,c14,c15,c16,c17,c18,c19,c20,c21,c22,c23,c24,c25,c26,c27,c28,c29,c30,c31,c32,c33,c34,c35,c36⟩:=wbox (show w.heap[B]?=some (.cells (wdV d ms ds) 85 (0,0)) from (by rw [←HV.out];exact hSw));go_simp)) HC.out ?_;(try simp only [Act.put,lA,lZ,lS]))
  (refine tkD (i:=7) (v:=aI aK d.off) 117 rfl (fun w hSw=>(by obtain ⟨c0,c1,c2,c3,c4,c5,c6,c7,c8,c9,c10,c11,c12,c13,c14,c15,c16,c17,c18,c19,c20,c21,c22,c23,c24,c25,c26,c27,c28,c29,c30,c31,c32,c33,c34,c35,c36⟩:=wbox (show w.heap[B]?=some (.cells (wdV d ms ds) 85 (0,0)) from (by rw [←HV.out];exact hSw));go_simp)) HC.out ?_;(try simp only [Act.put,lA,lZ,lS]))
  (refine tkD (i:=8) (v:=.pointer (some ⟨P,0,none⟩)) 118 rfl (fun w hSw=>(by obtain ⟨c0,c1,c2,c3,c4,c5,c6,c7,c8,c9,c10,c11,c12,c13,c14,c15,c16,c17,c18,c19,c20,c21,c22,c23,c24,c25,c26,c27,c28,c29,c30,c31,c32,c33,c34,c35,c36⟩:=wbox (show w.heap[B]?=some (.cells (wdV d ms ds) 85 (0,0)) from (by rw [←HV.out];exact hSw));go_simp)) HC.out ?_;(try simp only [Act.put,lA,lZ,lS]))
  (refine oneD 9 rfl (fun K' hK'=>?_))
  ((obtain ⟨p1,p2,p3⟩:=S.out.a0b 0 rfl);go_simp;(refine hK' _ _ ⟨?_,a0k fun w5 hw5=>?_⟩);(exact ((S.out.setObj 0 (aI aK d.zone)).pull (A:=[_])).head);(have S:=uH ((S.out.setObj 0 (aI aK d.zone))));(rw [←hw5] at S);(simp only [lA,lZ] at S);(have HC:Hid (w5.heap[B]?=some (.cells V 85 (0,0))):=uH (S.out.pull (A:=[_])).head);clear hw5 p1 p2 p3 hK' K';(try simp only [Act.put,lA,lZ,lS]))
  (refine tkD (i:=10) (v:=.pointer (some ⟨P,1,none⟩)) 119 rfl (fun w hSw=>(by obtain ⟨c0,c1,c2,c3,c4,c5,c6,c7,c8,c9,c10,c11,c12,c13,c14,c15,c16,c17,c18,c19,c20,c21,c22,c23,c24,c25,c26,c27,c28,c29,c30,c31,c32,c33,c34,c35,c36⟩:=wbox (show w.heap[B]?=some (.cells (wdV d ms ds) 85 (0,0)) from (by rw [←HV.out];exact hSw));go_simp)) HC.out ?_;(try simp only [Act.put,lA,lZ,lS]))
  (refine oneD 11 rfl (fun K' hK'=>?_))
  ((obtain ⟨p1,p2,p3⟩:=S.out.a0b 0 rfl);go_simp;(refine hK' _ _ ⟨?_,a0k fun w5 hw5=>?_⟩);(exact ((S.out.setObj 1 (aI aK d.epoch)).pull (A:=[_])).head);(have S:=uH ((S.out.setObj 1 (aI aK d.epoch))));(rw [←hw5] at S);(simp only [lA,lZ,lS] at S);(have HC:Hid (w5.heap[B]?=some (.cells V 85 (0,0))):=uH (S.out.pull (A:=[_])).head);clear hw5 p1 p2 p3 hK' K';(try simp only [Act.put,lA,lZ,lS]))
  (refine tkD (i:=12) (v:=.pointer (some ⟨P,2,none⟩)) 120 rfl (fun w hSw=>(by obtain ⟨c0,c1,c2,c3,c4,c5,c6,c7,c8,c9,c10,c11,c12,c13,c14,c15,c16,c17,c18,c19,c20,c21,c22,c23,c24,c25,c26,c27,c28,c29,c30,c31,c32,c33,c34,c35,c36⟩:=wbox (show w.heap[B]?=some (.cells (wdV d ms ds) 85 (0,0)) from (by rw [←HV.out];exact hSw));go_simp)) HC.out ?_;(try simp only [Act.put,lA,lZ,lS]))
  (refine oneD 13 rfl (fun K' hK'=>?_))
  ((obtain ⟨p1,p2,p3⟩:=S.out.a0b 0 rfl);go_simp;(refine hK' _ _ ⟨?_,a0k fun w5 hw5=>?_⟩);(exact ((S.out.setObj 2 (aI aK d.index)).pull (A:=[_])).head);(have S:=uH ((S.out.setObj 2 (aI aK d.index))));(rw [←hw5] at S);(simp only [lA,lZ,lS] at S);(have HC:Hid (w5.heap[B]?=some (.cells V 85 (0,0))):=uH (S.out.pull (A:=[_])).head);clear hw5 p1 p2 p3 hK' K';(try simp only [Act.put,lA,lZ,lS]))
  (refine tkD (i:=14) (v:=.pointer (some ⟨P,4,none⟩)) 121 rfl (fun w hSw=>(by obtain ⟨c0,c1,c2,c3,c4,c5,c6,c7,c8,c9,c10,c11,c12,c13,c14,c15,c16,c17,c18,c19,c20,c21,c22,c23,c24,c25,c26,c27,c28,c29,c30,c31,c32,c33,c34,c35,c36⟩:=wbox (show w.heap[B]?=some (.cells (wdV d ms ds) 85 (0,0)) from (by rw [←HV.out];exact hSw));go_simp)) HC.out ?_;(try simp only [Act.put,lA,lZ,lS]))
  (refine oneD 15 rfl (fun K' hK'=>?_))
  ((obtain ⟨p1,p2,p3⟩:=S.out.a0b 0 rfl);go_simp;(refine hK' _ _ ⟨?_,a0k fun w5 hw5=>?_⟩);(exact ((S.out.setObj 4 (aI aK d.off)).pull (A:=[_])).head);(have S:=uH ((S.out.setObj 4 (aI aK d.off))));(rw [←hw5] at S);(simp only [lA,lZ,lS] at S);(have HC:Hid (w5.heap[B]?=some (.cells V 85 (0,0))):=uH (S.out.pull (A:=[_])).head);clear hw5 p1 p2 p3 hK' K';(try simp only [Act.put,lA,lZ,lS]))
  ((refine wpAnyH_done (by kernel_rfl) ?_ _);(refine NoPanic.normal ?_);(go_wp2_with fail))
  exact hT _ ({ pl0 with zone:=d.zone,epoch:=d.epoch,index:=d.index,off:=d.off }) (numW d.off) false false _ _ _ _ _ _ _ _ _ _ _ _ _ _ _ _ _ _ _ _ _ _ _ _ _ _ _ _ _ _ _ _ _ _ _ _ _ _ _ _ _ _ _ _ _ _ _ _ _ _ _ _ _ _ _ _ _ _ _ _ _ _ _ _ _ _ _ _ _ _ _ _ _ _ _ _ _ _ _ _ _ _ _ _ _ _ _ _ _ _ _ _ _ _ _ _ _ _ _ _ _ _ _ _ _ _ _ _ _ _ _ _ _ _ _ _ _ _ _ _ _ _ _ _ _ _ _ _ _ _ _ _ _ _ _ _ _ _ _ S.out hr
end Go.Proofs.YtogamdaomdoapaaGreat