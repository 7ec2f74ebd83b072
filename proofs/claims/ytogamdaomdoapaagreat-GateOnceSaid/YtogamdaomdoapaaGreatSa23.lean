/- Texts put together: WK1, WK2. -/
import Derived.Test.YtogamdaomdoapaaGreatSa22
namespace Go.Proofs.YtogamdaomdoapaaGreat
set_option maxRecDepth 20000
open Go.RowKit
theorem calls_below {P:Program} {f:FuncId} {args:Array Value} {w:World} {v:Value} (h:Calls P f args w fun e w'=>e=.returned v∧w'=w):Calls P f args w fun e w'=>e=.returned v∧Below w.heap.size w w':=h.mono fun _ _ ⟨a,b⟩=>⟨a,by rw [b];exact Below.refl _ _⟩
set_option maxHeartbeats 4000000 in
theorem may_k0 {c:Code} (hb:(Tryz.f69).body=some c) {d:Wd} {ms ds:Value} {V:Array Value} (hV:V=wdV d ms ds) (w wa:World) (B P n:Nat) (dB mB:Bool) (hk:d.kind≠1∧d.kind≠2∧d.kind≠3∧d.kind≠4∧d.kind≠5∧d.kind≠6∧d.kind≠7∧d.kind≠8∧d.kind≠9∧d.kind≠10)
 (H:Hid (St w wa [thObj P (.cells #[.int .i64 0,.int .i64 0,.int .i64 0,.int .i64 0,.int .i64 0,.int .i64 0,.int .i64 0,.string ⟨#[]⟩,.string ⟨#[]⟩,.int .i64 0,.int .i64 0,.int .i64 0,.string ⟨#[]⟩,.string ⟨#[]⟩,.string ⟨#[]⟩,.string ⟨#[]⟩,.int .i64 0,.int .i64 0,.int .i64 0,.bool false,.int .i64 0,.int .i64 0,.int .i64 0,.int .i64 0,.int .i64 0,.int .i64 0,.int .i64 0,.int .i64 0,.int .i64 0,.int .i64 0,.int .i64 0,.string ⟨#[]⟩] 173 (0,0)),thObj B (.cells V 85 (0,0))])) (r:Bool) (hr:r=(okW d&&eqPl d.pl (namedW d)&&(dB==hasD d.kind)&&(mB==hasM d.kind)&&decide (n≤131072)))
 {K2:Act→World→Prop} {Q:Exit→Act→World→Prop} (hT:TailOk K2 w V B P dB mB r d n) {j9 j10 j11 j12 j13 j14 j15 j16 j17 j18 j19 j20 j21 j22 j23 j24 j25 j26 j27 j28 j29:Value}:(fstC (sndC (sndC (sndC (sndC c))))).wp Tryz.prog (Exit.then K2 Q) { tmps:=#[.agg V,.pointer (some ⟨B,0,none⟩),.bool false,.bool dB,.bool mB,.pointer (some ⟨P,0,none⟩),.bool false,.bool false,.bool false,j9,j10,j11,j12,j13,j14,j15,j16,j17,j18,j19,j20,j21,j22,j23,j24,j25,j26,j27,j28,j29,undef,undef,undef,undef,undef,undef,undef,undef,undef,undef,undef,undef,undef,undef,undef,undef,undef,undef,undef,undef,undef,undef,undef,undef,undef,undef,undef,undef,undef,undef,undef,undef,undef,undef,undef,undef,undef,undef,undef,undef,undef,undef,undef,undef,undef,undef,undef,undef,undef,undef,undef,undef,undef,undef,undef,undef,undef,undef,undef,undef,undef,undef,undef,undef,undef,undef,undef,undef,undef,undef,undef,undef,undef,undef,undef,undef,undef,undef,undef,undef,undef,undef,undef,undef,undef,undef,undef,undef,undef,undef,undef,undef,undef,undef,undef,undef,undef,undef,undef,undef,undef,undef,undef,undef,undef,undef,undef,undef,undef,undef,undef,undef,undef,undef,undef,undef,undef,undef,undef,undef,undef,undef,undef,undef,undef,undef,undef,undef,undef,undef,undef,undef,undef,undef,undef,undef,undef,undef,undef,undef,undef],defers:=[] } wa:=by
 have hs:V.size=37:=by rw [hV];rfl
 have HV:=Lib.hid hV
 clear hV
 obtain ⟨h1,h2,h3,h4,h5,h6,h7,h8,h9,h10⟩:=hk
 have e1:okW d=false:=by simp [okW,h1,h2,h3,h4,h5,h6,h7,h8,h9,h10]
 have e2:namedW d=pl0:=by simp [namedW,h2,h4,h5,h6,h7,h8,h9,h10]
 have e3:hasD d.kind=false:=by simp [hasD,h1,h7,h9]
 have e4:hasM d.kind=false:=by simp [hasM,h3]
 rw [e1,e2,e3,e4] at hr
 clear e1 e2 e3 e4
 cases hb
 simp only [sndC,fstC]
 have S:=H
 clear H
 obtain ⟨c0,c1,c2,c3,c4,c5,c6,c7,c8,c9,c10,c11,c12,c13,c14,c15,c16,c17,c18,c19,c20,c21,c22,c23,c24,c25,c26,c27,c28,c29,c30,c31,c32,c33,c34,c35,c36⟩:=wbox (show wa.heap[B]?=some (.cells (wdV d ms ds) 85 (0,0)) from (by rw [←HV.out];exact (S.out.pull (A:=[_])).head))
 have f1:(d.kind==1)=false:=by rw [beq_eq_false_iff_ne];exact h1
 have f2:(d.kind==2)=false:=by rw [beq_eq_false_iff_ne];exact h2
 have f3:(d.kind==3)=false:=by rw [beq_eq_false_iff_ne];exact h3
 have f4:(d.kind==4)=false:=by rw [beq_eq_false_iff_ne];exact h4
 have f5:(d.kind==5)=false:=by rw [beq_eq_false_iff_ne];exact h5
 have f6:(d.kind==6)=false:=by rw [beq_eq_false_iff_ne];exact h6
 have f7:(d.kind==7)=false:=by rw [beq_eq_false_iff_ne];exact h7
 have f8:(d.kind==8)=false:=by rw [beq_eq_false_iff_ne];exact h8
 have f9:(d.kind==9)=false:=by rw [beq_eq_false_iff_ne];exact h9
 have f10:(d.kind==10)=false:=by rw [beq_eq_false_iff_ne];exact h10
 clear h1 h2 h3 h4 h5 h6 h7 h8 h9 h10
 clear c1 c2 c3 c4 c5 c6 c7 c8 c9 c10 c11 c12 c13 c14 c15 c16 c17 c18 c19 c20 c21 c22 c23 c24 c25 c26 c27 c28 c29 c30 c31 c32 c33 c34 c35 c36
 refine wp_hold fun C HC=>?_
 go_wp2_with fail
 (have hC:=HC.out);clear HC;subst hC
 clear c0
 refine wp_block ?_
 iterate 10 ((refine wp_hold fun C HC=>?_);(go_wp2_with fail);(have hC:=HC.out);clear HC;subst hC;(refine wp_cond_false rfl ?_))
 go_wp2_with fail
 exact hT _ (pl0) (false) false false _ _ _ _ _ _ _ _ _ _ _ _ _ _ _ _ _ _ _ _ _ _ _ _ _ _ _ _ _ _ _ _ _ _ _ _ _ _ _ _ _ _ _ _ _ _ _ _ _ _ _ _ _ _ _ _ _ _ _ _ _ _ _ _ _ _ _ _ _ _ _ _ _ _ _ _ _ _ _ _ _ _ _ _ _ _ _ _ _ _ _ _ _ _ _ _ _ _ _ _ _ _ _ _ _ _ _ _ _ _ _ _ _ _ _ _ _ _ _ _ _ _ _ _ _ _ _ _ _ _ _ _ _ _ _ _ _ _ _ S.out hr
set_option maxHeartbeats 4000000 in
theorem may_k1 {c:Code} (hb:(Tryz.f69).body=some c) {d:Wd} {ms ds:Value} {V:Array Value} (hV:V=wdV d ms ds) (w wa:World) (B P n:Nat) (dB mB:Bool) (hk:d.kind=1)
 (H:Hid (St w wa [thObj P (.cells #[.int .i64 0,.int .i64 0,.int .i64 0,.int .i64 0,.int .i64 0,.int .i64 0,.int .i64 0,.string ⟨#[]⟩,.string ⟨#[]⟩,.int .i64 0,.int .i64 0,.int .i64 0,.string ⟨#[]⟩,.string ⟨#[]⟩,.string ⟨#[]⟩,.string ⟨#[]⟩,.int .i64 0,.int .i64 0,.int .i64 0,.bool false,.int .i64 0,.int .i64 0,.int .i64 0,.int .i64 0,.int .i64 0,.int .i64 0,.int .i64 0,.int .i64 0,.int .i64 0,.int .i64 0,.int .i64 0,.string ⟨#[]⟩] 173 (0,0)),thObj B (.cells V 85 (0,0))])) (r:Bool) (hr:r=(okW d&&eqPl d.pl (namedW d)&&(dB==hasD d.kind)&&(mB==hasM d.kind)&&decide (n≤131072)))
 {K2:Act→World→Prop} {Q:Exit→Act→World→Prop} (hT:TailOk K2 w V B P dB mB r d n) {j9 j10 j11 j12 j13 j14 j15 j16 j17 j18 j19 j20 j21 j22 j23 j24 j25 j26 j27 j28 j29:Value}:(fstC (sndC (sndC (sndC (sndC c))))).wp Tryz.prog (Exit.then K2 Q) { tmps:=#[.agg V,.pointer (some ⟨B,0,none⟩),.bool false,.bool dB,.bool mB,.pointer (some ⟨P,0,none⟩),.bool false,.bool false,.bool false,j9,j10,j11,j12,j13,j14,j15,j16,j17,j18,j19,j20,j21,j22,j23,j24,j25,j26,j27,j28,j29,undef,undef,undef,undef,undef,undef,undef,undef,undef,undef,undef,undef,undef,undef,undef,undef,undef,undef,undef,undef,undef,undef,undef,undef,undef,undef,undef,undef,undef,undef,undef,undef,undef,undef,undef,undef,undef,undef,undef,undef,undef,undef,undef,undef,undef,undef,undef,undef,undef,undef,undef,undef,undef,undef,undef,undef,undef,undef,undef,undef,undef,undef,undef,undef,undef,undef,undef,undef,undef,undef,undef,undef,undef,undef,undef,undef,undef,undef,undef,undef,undef,undef,undef,undef,undef,undef,undef,undef,undef,undef,undef,undef,undef,undef,undef,undef,undef,undef,undef,undef,undef,undef,undef,undef,undef,undef,undef,undef,undef,undef,undef,undef,undef,undef,undef,undef,undef,undef,undef,undef,undef,undef,undef,undef,undef,undef,undef,undef,undef,undef,undef,undef,undef,undef,undef,undef,undef,undef,undef,undef,undef],defers:=[] } wa:=by
 have hs:V.size=37:=by rw [hV];rfl
 have HV:=Lib.hid hV
 clear hV
 have e1:okW d=(true):=by simp [okW,hk]
 have e2:namedW d=pl0:=by simp [namedW,hk]
 have e3:hasD d.kind=true:=by simp [hasD,hk]
 have e4:hasM d.kind=false:=by simp [hasM,hk]
 rw [e1,e2,e3,e4] at hr
 clear e1 e2 e3 e4
 cases hb
 simp only [sndC,fstC]
 have S:=H
 clear H
 obtain ⟨c0,c1,c2,c3,c4,c5,c6,c7,c8,c9,c10,c11,c12,c13,c14,c15,c16,c17,c18,c19,c20,c21,c22,c23,c24,c25,c26,c27,c28,c29,c30,c31,c32,c33,c34,c35,c36⟩:=wbox (show wa.heap[B]?=some (.cells (wdV d ms ds) 85 (0,0)) from (by rw [←HV.out];exact (S.out.pull (A:=[_])).head))
 rw [hk] at c0
 clear c1 c2 c3 c4 c5 c6 c7 c8 c9 c10 c11 c12 c13 c14 c15 c16 c17 c18 c19 c20 c21 c22 c23 c24 c25 c26 c27 c28 c29 c30 c31 c32 c33 c34 c35 c36
 refine wp_hold fun C HC=>?_
 go_wp2_with fail
 (have hC:=HC.out);clear HC;subst hC
 clear c0
 refine wp_block ?_
 ((refine wp_hold fun C HC=>?_);(go_wp2_with fail);(have hC:=HC.out);clear HC;subst hC;(refine wp_cond_true rfl ?_))
 go_wp2_with fail
 exact hT _ (pl0) (true) true false _ _ _ _ _ _ _ _ _ _ _ _ _ _ _ _ _ _ _ _ _ _ _ _ _ _ _ _ _ _ _ _ _ _ _ _ _ _ _ _ _ _ _ _ _ _ _ _ _ _ _ _ _ _ _ _ _ _ _ _ _ _ _ _ _ _ _ _ _ _ _ _ _ _ _ _ _ _ _ _ _ _ _ _ _ _ _ _ _ _ _ _ _ _ _ _ _ _ _ _ _ _ _ _ _ _ _ _ _ _ _ _ _ _ _ _ _ _ _ _ _ _ _ _ _ _ _ _ _ _ _ _ _ _ _ _ _ _ _ S.out hr
set_option maxHeartbeats 4000000 in
theorem may_k2 {c:Code} (hb:(Tryz.f69).body=some c) {d:Wd} {ms ds:Value} {V:Array Value} (hV:V=wdV d ms ds) (w wa:World) (B P n:Nat) (dB mB:Bool) (hk:d.kind=2)
 (H:Hid (St w wa [thObj P (.cells #[.int .i64 0,.int .i64 0,.int .i64 0,.int .i64 0,.int .i64 0,.int .i64 0,.int .i64 0,.string ⟨#[]⟩,.string ⟨#[]⟩,.int .i64 0,.int .i64 0,.int .i64 0,.string ⟨#[]⟩,.string ⟨#[]⟩,.string ⟨#[]⟩,.string ⟨#[]⟩,.int .i64 0,.int .i64 0,.int .i64 0,.bool false,.int .i64 0,.int .i64 0,.int .i64 0,.int .i64 0,.int .i64 0,.int .i64 0,.int .i64 0,.int .i64 0,.int .i64 0,.int .i64 0,.int .i64 0,.string ⟨#[]⟩] 173 (0,0)),thObj B (.cells V 85 (0,0))])) (r:Bool) (hr:r=(okW d&&eqPl d.pl (namedW d)&&(dB==hasD d.kind)&&(mB==hasM d.kind)&&decide (n≤131072)))
 {K2:Act→World→Prop} {Q:Exit→Act→World→Prop} (hT:TailOk K2 w V B P dB mB r d n) {j9 j10 j11 j12 j13 j14 j15 j16 j17 j18 j19 j20 j21 j22 j23 j24 j25 j26 j27 j28 j29:Value}:(fstC (sndC (sndC (sndC (sndC c))))).wp Tryz.prog (Exit.then K2 Q) { tmps:=#[.agg V,.pointer (some ⟨B,0,none⟩),.bool false,.bool dB,.bool mB,.pointer (some ⟨P,0,none⟩),.bool false,.bool false,.bool false,j9,j10,j11,j12,j13,j14,j15,j16,j17,j18,j19,j20,j21,j22,j23,j24,j25,j26,j27,j28,j29,undef,undef,undef,undef,undef,undef,undef,undef,undef,undef,undef,undef,undef,undef,undef,undef,undef,undef,undef,undef,undef,undef,undef,undef,undef,undef,undef,undef,undef,undef,undef,undef,undef,undef,undef,undef,undef,undef,undef,undef,undef,undef,undef,undef,undef,undef,undef,undef,undef,undef,undef,undef,undef,undef,undef,undef,undef,undef,undef,undef,undef,undef,undef,undef,undef,undef,undef,undef,undef,undef,undef,undef,undef,undef,undef,undef,undef,undef,undef,undef,undef,undef,undef,undef,undef,undef,undef,undef,undef,undef,undef,undef,undef,undef,undef,undef,undef,undef,undef,undef,undef,undef,undef,undef,undef,undef,undef,undef,undef,undef,undef,undef,undef,undef,undef,undef,undef,undef,undef,undef,undef,undef,undef,undef,undef,undef,undef,undef,undef,undef,undef,undef,undef,undef,undef,undef,undef,undef,undef,undef,undef],defers:=[] } wa:=by
 have hs:V.size=37:=by rw [hV];rfl
 have HV:=Lib.hid hV
 clear hV
 have e1:okW d=(numW d.index):=by simp [okW,hk]
 have e2:namedW d={ pl0 with index:=d.index }:=by simp [namedW,hk]
 have e3:hasD d.kind=false:=by simp [hasD,hk]
 have e4:hasM d.kind=false:=by simp [hasM,hk]
 rw [e1,e2,e3,e4] at hr
 clear e1 e2 e3 e4
 cases hb
 simp only [sndC,fstC]
 have S:=H
 clear H
 obtain ⟨c0,c1,c2,c3,c4,c5,c6,c7,c8,c9,c10,c11,c12,c13,c14,c15,c16,c17,c18,c19,c20,c21,c22,c23,c24,c25,c26,c27,c28,c29,c30,c31,c32,c33,c34,c35,c36⟩:=wbox (show wa.heap[B]?=some (.cells (wdV d ms ds) 85 (0,0)) from (by rw [←HV.out];exact (S.out.pull (A:=[_])).head))
 rw [hk] at c0
 clear c1 c2 c3 c4 c5 c6 c7 c8 c9 c10 c11 c12 c13 c14 c15 c16 c17 c18 c19 c20 c21 c22 c23 c24 c25 c26 c27 c28 c29 c30 c31 c32 c33 c34 c35 c36
 refine wp_hold fun C HC=>?_
 go_wp2_with fail
 (have hC:=HC.out);clear HC;subst hC
 clear c0
 refine wp_block ?_
 iterate 1 ((refine wp_hold fun C HC=>?_);(go_wp2_with fail);(have hC:=HC.out);clear HC;subst hC;(refine wp_cond_false rfl ?_))
 ((refine wp_hold fun C HC=>?_);(go_wp2_with fail);(have hC:=HC.out);clear HC;subst hC;(refine wp_cond_true rfl ?_))
 ((obtain ⟨wd,hwd⟩:∃ wd,wd=wa.drew:=⟨_,rfl⟩);(have S:=Lib.hid (S.out.grow (w':=wd) (by rw [hwd];exact (Below.refl _ _).drew)));(have HC:Hid (wd.heap[B]?=some (.cells V 85 (0,0))):=Lib.hid (S.out.pull (A:=[_])).head);(refine wp_region_noPanic ?_);(refine wp_region_held (S:=(fun W:World=>W.heap[B]?=some (.cells V 85 (0,0)))) (by kernel_rfl) ?_);change wpAnyH _ _ _ _ _ _ _ _ (World.drew _);(rw [←hwd]);clear hwd)
 (refine takeD (i:=0) (v:=.pointer (some ⟨B,3,none⟩)) 36 rfl rfl (by kernel_rfl) (by kernel_rfl) (by kernel_rfl) (fun _ _ _ h=>h) (Or.inl ⟨by rfl,fun w hSw=>(by obtain ⟨c0,c1,c2,c3,c4,c5,c6,c7,c8,c9,c10,c11,c12,c13,c14,c15,c16,c17,c18,c19,c20,c21,c22,c23,c24,c25,c26,c27,c28,c29,c30,c31,c32,c33,c34,c35,c36⟩:=wbox (show w.heap[B]?=some (.cells (wdV d ms ds) 85 (0,0)) from (by rw [←HV.out];exact hSw));go_simp)⟩) HC.out ?_;(try simp only [Act.put,List.setIfInBounds_toArray,List.set_cons_zero,List.set_cons_succ]))
 (refine takeD (i:=1) (v:=.int .i64 d.index) 37 rfl rfl (by kernel_rfl) (by kernel_rfl) (by kernel_rfl) (fun _ _ _ h=>h) (Or.inl ⟨by rfl,fun w hSw=>(by obtain ⟨c0,c1,c2,c3,c4,c5,c6,c7,c8,c9,c10,c11,c12,c13,c14,c15,c16,c17,c18,c19,c20,c21,c22,c23,c24,c25,c26,c27,c28,c29,c30,c31,c32,c33,c34,c35,c36⟩:=wbox (show w.heap[B]?=some (.cells (wdV d ms ds) 85 (0,0)) from (by rw [←HV.out];exact hSw));go_simp)⟩) HC.out ?_;(try simp only [Act.put,List.setIfInBounds_toArray,List.set_cons_zero,List.set_cons_succ]))
 (refine takeD (i:=3) (v:=.pointer (some ⟨B,3,none⟩)) 39 rfl rfl (by kernel_rfl) (by kernel_rfl) (by kernel_rfl) (fun _ _ _ h=>h) (Or.inl ⟨by rfl,fun w hSw=>(by obtain ⟨c0,c1,c2,c3,c4,c5,c6,c7,c8,c9,c10,c11,c12,c13,c14,c15,c16,c17,c18,c19,c20,c21,c22,c23,c24,c25,c26,c27,c28,c29,c30,c31,c32,c33,c34,c35,c36⟩:=wbox (show w.heap[B]?=some (.cells (wdV d ms ds) 85 (0,0)) from (by rw [←HV.out];exact hSw));go_simp)⟩) HC.out ?_;(try simp only [Act.put,List.setIfInBounds_toArray,List.set_cons_zero,List.set_cons_succ]))
 (refine takeD (i:=4) (v:=.int .i64 d.index) 40 rfl rfl (by kernel_rfl) (by kernel_rfl) (by kernel_rfl) (fun _ _ _ h=>h) (Or.inl ⟨by rfl,fun w hSw=>(by obtain ⟨c0,c1,c2,c3,c4,c5,c6,c7,c8,c9,c10,c11,c12,c13,c14,c15,c16,c17,c18,c19,c20,c21,c22,c23,c24,c25,c26,c27,c28,c29,c30,c31,c32,c33,c34,c35,c36⟩:=wbox (show w.heap[B]?=some (.cells (wdV d ms ds) 85 (0,0)) from (by rw [←HV.out];exact hSw));go_simp)⟩) HC.out ?_;(try simp only [Act.put,List.setIfInBounds_toArray,List.set_cons_zero,List.set_cons_succ]))
 ((refine wpAnyH_all (rs:=[2]) (by kernel_rfl) (by simp) (fun i' hi'=>?_);(obtain rfl:i'=2:=by simpa using hi');clear hi';(refine wpOp_step rfl (fun K' hK'=>?_)));go_simp;(refine (calls_below (isNumW d.index wd)).mono ?_);(rintro e w5 ⟨rfl,hb5⟩);(have S:=Lib.hid (S.out.grow hb5));(have HC:Hid (w5.heap[B]?=some (.cells V 85 (0,0))):=Lib.hid (S.out.pull (A:=[_])).head);(refine hK' _ _ ⟨HC.out,?_⟩);clear hK' K' hb5;(try simp only [Act.put,List.setIfInBounds_toArray,List.set_cons_zero,List.set_cons_succ]))
 (refine takeD (i:=5) (v:=.bool (numW d.index)) 6 rfl rfl (by kernel_rfl) (by kernel_rfl) (by kernel_rfl) (fun _ _ _ h=>h) (Or.inl ⟨by rfl,fun w hSw=>(by obtain ⟨c0,c1,c2,c3,c4,c5,c6,c7,c8,c9,c10,c11,c12,c13,c14,c15,c16,c17,c18,c19,c20,c21,c22,c23,c24,c25,c26,c27,c28,c29,c30,c31,c32,c33,c34,c35,c36⟩:=wbox (show w.heap[B]?=some (.cells (wdV d ms ds) 85 (0,0)) from (by rw [←HV.out];exact hSw));go_simp)⟩) HC.out ?_;(try simp only [Act.put,List.setIfInBounds_toArray,List.set_cons_zero,List.set_cons_succ]))
 (refine takeD (i:=6) (v:=.pointer (some ⟨P,2,none⟩)) 41 rfl rfl (by kernel_rfl) (by kernel_rfl) (by kernel_rfl) (fun _ _ _ h=>h) (Or.inl ⟨by rfl,fun w hSw=>(by obtain ⟨c0,c1,c2,c3,c4,c5,c6,c7,c8,c9,c10,c11,c12,c13,c14,c15,c16,c17,c18,c19,c20,c21,c22,c23,c24,c25,c26,c27,c28,c29,c30,c31,c32,c33,c34,c35,c36⟩:=wbox (show w.heap[B]?=some (.cells (wdV d ms ds) 85 (0,0)) from (by rw [←HV.out];exact hSw));go_simp)⟩) HC.out ?_;(try simp only [Act.put,List.setIfInBounds_toArray,List.set_cons_zero,List.set_cons_succ]))
 (refine wpAnyH_all (rs:=[7]) (by kernel_rfl) (by simp) (fun i' hi'=>?_);(obtain rfl:i'=7:=by simpa using hi');clear hi';(refine wpOp_step rfl (fun K' hK'=>?_)))
 ((obtain ⟨p1,p2,p3⟩:=S.out.cellsN 0 rfl);go_simp;(refine hK' _ _ ⟨?_,anyH_name fun w5 hw5=>?_⟩);(exact ((S.out.setObj 2 (.int .i64 d.index)).pull (A:=[_])).head);(have S:=Lib.hid ((S.out.setObj 2 (.int .i64 d.index))));(rw [←hw5] at S);(simp only [List.setIfInBounds_toArray,List.set_cons_zero,List.set_cons_succ] at S);(have HC:Hid (w5.heap[B]?=some (.cells V 85 (0,0))):=Lib.hid (S.out.pull (A:=[_])).head);clear hw5 p1 p2 p3 hK' K';(try simp only [Act.put,List.setIfInBounds_toArray,List.set_cons_zero,List.set_cons_succ]))
 ((refine wpAnyH_done (by kernel_rfl) ?_ _);(refine NoPanic.normal ?_);(go_wp2_with fail))
 exact hT _ ({ pl0 with index:=d.index }) (numW d.index) false false _ _ _ _ _ _ _ _ _ _ _ _ _ _ _ _ _ _ _ _ _ _ _ _ _ _ _ _ _ _ _ _ _ _ _ _ _ _ _ _ _ _ _ _ _ _ _ _ _ _ _ _ _ _ _ _ _ _ _ _ _ _ _ _ _ _ _ _ _ _ _ _ _ _ _ _ _ _ _ _ _ _ _ _ _ _ _ _ _ _ _ _ _ _ _ _ _ _ _ _ _ _ _ _ _ _ _ _ _ _ _ _ _ _ _ _ _ _ _ _ _ _ _ _ _ _ _ _ _ _ _ _ _ _ _ _ _ _ _ S.out hr
end Go.Proofs.YtogamdaomdoapaaGreat
namespace Go.Proofs.YtogamdaomdoapaaGreat
set_option maxRecDepth 20000
open Go.RowKit
set_option maxHeartbeats 4000000 in
theorem may_k3 {c:Code} (hb:(Tryz.f69).body=some c) {d:Wd} {ms ds:Value} {V:Array Value} (hV:V=wdV d ms ds) (ao:Option Addr) (zc:Nat) (hms:ms=.slice ao d.mp.zs.length zc) (hl:O.MzB d.mp) (w wa:World) (hz:O.ZsAt w ao d.mp.zs) (B P n:Nat) (dB mB:Bool) (hk:d.kind=3)
 (H:Hid (St w wa [thObj P (.cells #[.int .i64 0,.int .i64 0,.int .i64 0,.int .i64 0,.int .i64 0,.int .i64 0,.int .i64 0,.string ⟨#[]⟩,.string ⟨#[]⟩,.int .i64 0,.int .i64 0,.int .i64 0,.string ⟨#[]⟩,.string ⟨#[]⟩,.string ⟨#[]⟩,.string ⟨#[]⟩,.int .i64 0,.int .i64 0,.int .i64 0,.bool false,.int .i64 0,.int .i64 0,.int .i64 0,.int .i64 0,.int .i64 0,.int .i64 0,.int .i64 0,.int .i64 0,.int .i64 0,.int .i64 0,.int .i64 0,.string ⟨#[]⟩] 173 (0,0)),thObj B (.cells V 85 (0,0))])) (r:Bool) (hr:r=(okW d&&eqPl d.pl (namedW d)&&(dB==hasD d.kind)&&(mB==hasM d.kind)&&decide (n≤131072)))
 {K2:Act→World→Prop} {Q:Exit→Act→World→Prop} (hT:TailOk K2 w V B P dB mB r d n) {j9 j10 j11 j12 j13 j14 j15 j16 j17 j18 j19 j20 j21 j22 j23 j24 j25 j26 j27 j28 j29:Value}:(fstC (sndC (sndC (sndC (sndC c))))).wp Tryz.prog (Exit.then K2 Q) { tmps:=#[.agg V,.pointer (some ⟨B,0,none⟩),.bool false,.bool dB,.bool mB,.pointer (some ⟨P,0,none⟩),.bool false,.bool false,.bool false,j9,j10,j11,j12,j13,j14,j15,j16,j17,j18,j19,j20,j21,j22,j23,j24,j25,j26,j27,j28,j29,undef,undef,undef,undef,undef,undef,undef,undef,undef,undef,undef,undef,undef,undef,undef,undef,undef,undef,undef,undef,undef,undef,undef,undef,undef,undef,undef,undef,undef,undef,undef,undef,undef,undef,undef,undef,undef,undef,undef,undef,undef,undef,undef,undef,undef,undef,undef,undef,undef,undef,undef,undef,undef,undef,undef,undef,undef,undef,undef,undef,undef,undef,undef,undef,undef,undef,undef,undef,undef,undef,undef,undef,undef,undef,undef,undef,undef,undef,undef,undef,undef,undef,undef,undef,undef,undef,undef,undef,undef,undef,undef,undef,undef,undef,undef,undef,undef,undef,undef,undef,undef,undef,undef,undef,undef,undef,undef,undef,undef,undef,undef,undef,undef,undef,undef,undef,undef,undef,undef,undef,undef,undef,undef,undef,undef,undef,undef,undef,undef,undef,undef,undef,undef,undef,undef,undef,undef,undef,undef,undef,undef],defers:=[] } wa:=by
 have hs:V.size=37:=by rw [hV];rfl
 have HV:=Lib.hid hV
 clear hV
 have e1:okW d=(mayM d.mp):=by simp [okW,hk]
 have e2:namedW d=pl0:=by simp [namedW,hk]
 have e3:hasD d.kind=false:=by simp [hasD,hk]
 have e4:hasM d.kind=true:=by simp [hasM,hk]
 rw [e1,e2,e3,e4] at hr
 clear e1 e2 e3 e4
 cases hb
 simp only [sndC,fstC]
 have S:=H
 clear H
 obtain ⟨c0,c1,c2,c3,c4,c5,c6,c7,c8,c9,c10,c11,c12,c13,c14,c15,c16,c17,c18,c19,c20,c21,c22,c23,c24,c25,c26,c27,c28,c29,c30,c31,c32,c33,c34,c35,c36⟩:=wbox (show wa.heap[B]?=some (.cells (wdV d ms ds) 85 (0,0)) from (by rw [←HV.out];exact (S.out.pull (A:=[_])).head))
 rw [hk] at c0
 clear c1 c2 c3 c4 c5 c6 c7 c8 c9 c10 c11 c12 c13 c14 c15 c16 c17 c18 c19 c20 c21 c22 c23 c24 c25 c26 c27 c28 c29 c30 c31 c32 c33 c34 c35 c36
 refine wp_hold fun C HC=>?_
 go_wp2_with fail
 (have hC:=HC.out);clear HC;subst hC
 clear c0
 refine wp_block ?_
 iterate 2 ((refine wp_hold fun C HC=>?_);(go_wp2_with fail);(have hC:=HC.out);clear HC;subst hC;(refine wp_cond_false rfl ?_))
 ((refine wp_hold fun C HC=>?_);(go_wp2_with fail);(have hC:=HC.out);clear HC;subst hC;(refine wp_cond_true rfl ?_))
 obtain ⟨c0,c1,c2,c3,c4,c5,c6,c7,c8,c9,c10,c11,c12,c13,c14,c15,c16,c17,c18,c19,c20,c21,c22,c23,c24,c25,c26,c27,c28,c29,c30,c31,c32,c33,c34,c35,c36⟩:=wbox (show wa.heap[B]?=some (.cells (wdV d ms ds) 85 (0,0)) from (by rw [←HV.out];exact (S.out.pull (A:=[_])).head))
 subst hms
 go_wp2_with fail
 refine (O.isMap_any ao zc d.mp wa (hz.grow S.out.b) hl).mono ?_
 rintro e w5 ⟨rfl,hb5⟩
 have S:=Lib.hid (S.out.grow hb5)
 clear hb5 c0 c1 c2 c3 c4 c5 c6 c7 c8 c9 c10 c11 c12 c13 c14 c15 c16 c17 c18 c19 c20 c21 c22 c23 c24 c25 c26 c27 c28 c29 c30 c31 c32 c33 c34 c35 c36
 go_wp2_with fail
 exact hT _ (pl0) (mayM d.mp) false true _ _ _ _ _ _ _ _ _ _ _ _ _ _ _ _ _ _ _ _ _ _ _ _ _ _ _ _ _ _ _ _ _ _ _ _ _ _ _ _ _ _ _ _ _ _ _ _ _ _ _ _ _ _ _ _ _ _ _ _ _ _ _ _ _ _ _ _ _ _ _ _ _ _ _ _ _ _ _ _ _ _ _ _ _ _ _ _ _ _ _ _ _ _ _ _ _ _ _ _ _ _ _ _ _ _ _ _ _ _ _ _ _ _ _ _ _ _ _ _ _ _ _ _ _ _ _ _ _ _ _ _ _ _ _ _ _ _ _ S.out hr
set_option maxHeartbeats 4000000 in
theorem may_k4 {c:Code} (hb:(Tryz.f69).body=some c) {d:Wd} {ms ds:Value} {V:Array Value} (hV:V=wdV d ms ds) (w wa:World) (B P n:Nat) (dB mB:Bool) (hk:d.kind=4)
 (H:Hid (St w wa [thObj P (.cells #[.int .i64 0,.int .i64 0,.int .i64 0,.int .i64 0,.int .i64 0,.int .i64 0,.int .i64 0,.string ⟨#[]⟩,.string ⟨#[]⟩,.int .i64 0,.int .i64 0,.int .i64 0,.string ⟨#[]⟩,.string ⟨#[]⟩,.string ⟨#[]⟩,.string ⟨#[]⟩,.int .i64 0,.int .i64 0,.int .i64 0,.bool false,.int .i64 0,.int .i64 0,.int .i64 0,.int .i64 0,.int .i64 0,.int .i64 0,.int .i64 0,.int .i64 0,.int .i64 0,.int .i64 0,.int .i64 0,.string ⟨#[]⟩] 173 (0,0)),thObj B (.cells V 85 (0,0))])) (r:Bool) (hr:r=(okW d&&eqPl d.pl (namedW d)&&(dB==hasD d.kind)&&(mB==hasM d.kind)&&decide (n≤131072)))
 {K2:Act→World→Prop} {Q:Exit→Act→World→Prop} (hT:TailOk K2 w V B P dB mB r d n) {j9 j10 j11 j12 j13 j14 j15 j16 j17 j18 j19 j20 j21 j22 j23 j24 j25 j26 j27 j28 j29:Value}:(fstC (sndC (sndC (sndC (sndC c))))).wp Tryz.prog (Exit.then K2 Q) { tmps:=#[.agg V,.pointer (some ⟨B,0,none⟩),.bool false,.bool dB,.bool mB,.pointer (some ⟨P,0,none⟩),.bool false,.bool false,.bool false,j9,j10,j11,j12,j13,j14,j15,j16,j17,j18,j19,j20,j21,j22,j23,j24,j25,j26,j27,j28,j29,undef,undef,undef,undef,undef,undef,undef,undef,undef,undef,undef,undef,undef,undef,undef,undef,undef,undef,undef,undef,undef,undef,undef,undef,undef,undef,undef,undef,undef,undef,undef,undef,undef,undef,undef,undef,undef,undef,undef,undef,undef,undef,undef,undef,undef,undef,undef,undef,undef,undef,undef,undef,undef,undef,undef,undef,undef,undef,undef,undef,undef,undef,undef,undef,undef,undef,undef,undef,undef,undef,undef,undef,undef,undef,undef,undef,undef,undef,undef,undef,undef,undef,undef,undef,undef,undef,undef,undef,undef,undef,undef,undef,undef,undef,undef,undef,undef,undef,undef,undef,undef,undef,undef,undef,undef,undef,undef,undef,undef,undef,undef,undef,undef,undef,undef,undef,undef,undef,undef,undef,undef,undef,undef,undef,undef,undef,undef,undef,undef,undef,undef,undef,undef,undef,undef,undef,undef,undef,undef,undef,undef],defers:=[] } wa:=by
 have hs:V.size=37:=by rw [hV];rfl
 have HV:=Lib.hid hV
 clear hV
 have e1:okW d=(mayC d.ch):=by simp [okW,hk]
 have e2:namedW d={ pl0 with ch:=d.ch }:=by simp [namedW,hk]
 have e3:hasD d.kind=false:=by simp [hasD,hk]
 have e4:hasM d.kind=false:=by simp [hasM,hk]
 rw [e1,e2,e3,e4] at hr
 clear e1 e2 e3 e4
 cases hb
 simp only [sndC,fstC]
 have S:=H
 clear H
 obtain ⟨c0,c1,c2,c3,c4,c5,c6,c7,c8,c9,c10,c11,c12,c13,c14,c15,c16,c17,c18,c19,c20,c21,c22,c23,c24,c25,c26,c27,c28,c29,c30,c31,c32,c33,c34,c35,c36⟩:=wbox (show wa.heap[B]?=some (.cells (wdV d ms ds) 85 (0,0)) from (by rw [←HV.out];exact (S.out.pull (A:=[_])).head))
 rw [hk] at c0
 clear c1 c2 c3 c4 c5 c6 c7 c8 c9 c10 c11 c12 c13 c14 c15 c16 c17 c18 c19 c20 c21 c22 c23 c24 c25 c26 c27 c28 c29 c30 c31 c32 c33 c34 c35 c36
 refine wp_hold fun C HC=>?_
 go_wp2_with fail
 (have hC:=HC.out);clear HC;subst hC
 clear c0
 refine wp_block ?_
 iterate 3 ((refine wp_hold fun C HC=>?_);(go_wp2_with fail);(have hC:=HC.out);clear HC;subst hC;(refine wp_cond_false rfl ?_))
 ((refine wp_hold fun C HC=>?_);(go_wp2_with fail);(have hC:=HC.out);clear HC;subst hC;(refine wp_cond_true rfl ?_))
 ((obtain ⟨wd,hwd⟩:∃ wd,wd=wa.drew:=⟨_,rfl⟩);(have S:=Lib.hid (S.out.grow (w':=wd) (by rw [hwd];exact (Below.refl _ _).drew)));(have HC:Hid (wd.heap[B]?=some (.cells V 85 (0,0))):=Lib.hid (S.out.pull (A:=[_])).head);(refine wp_region_noPanic ?_);(refine wp_region_held (S:=(fun W:World=>W.heap[B]?=some (.cells V 85 (0,0)))) (by kernel_rfl) ?_);change wpAnyH _ _ _ _ _ _ _ _ (World.drew _);(rw [←hwd]);clear hwd)
 (refine takeD (i:=0) (v:=.pointer (some ⟨B,31,none⟩)) 49 rfl rfl (by kernel_rfl) (by kernel_rfl) (by kernel_rfl) (fun _ _ _ h=>h) (Or.inl ⟨by rfl,fun w hSw=>(by obtain ⟨c0,c1,c2,c3,c4,c5,c6,c7,c8,c9,c10,c11,c12,c13,c14,c15,c16,c17,c18,c19,c20,c21,c22,c23,c24,c25,c26,c27,c28,c29,c30,c31,c32,c33,c34,c35,c36⟩:=wbox (show w.heap[B]?=some (.cells (wdV d ms ds) 85 (0,0)) from (by rw [←HV.out];exact hSw));go_simp)⟩) HC.out ?_;(try simp only [Act.put,List.setIfInBounds_toArray,List.set_cons_zero,List.set_cons_succ]))
 (refine takeD (i:=1) (v:=.agg #[.int .i64 d.ch.kind,.int .i64 d.ch.zone,.int .i64 d.ch.epoch,.int .i64 d.ch.tt,.string d.ch.key]) 50 rfl rfl (by kernel_rfl) (by kernel_rfl) (by kernel_rfl) (fun _ _ _ h=>h) (Or.inl ⟨by rfl,fun w hSw=>(by obtain ⟨c0,c1,c2,c3,c4,c5,c6,c7,c8,c9,c10,c11,c12,c13,c14,c15,c16,c17,c18,c19,c20,c21,c22,c23,c24,c25,c26,c27,c28,c29,c30,c31,c32,c33,c34,c35,c36⟩:=wbox (show w.heap[B]?=some (.cells (wdV d ms ds) 85 (0,0)) from (by rw [←HV.out];exact hSw));go_simp)⟩) HC.out ?_;(try simp only [Act.put,List.setIfInBounds_toArray,List.set_cons_zero,List.set_cons_succ]))
 (refine takeD (i:=3) (v:=.pointer (some ⟨B,31,none⟩)) 52 rfl rfl (by kernel_rfl) (by kernel_rfl) (by kernel_rfl) (fun _ _ _ h=>h) (Or.inl ⟨by rfl,fun w hSw=>(by obtain ⟨c0,c1,c2,c3,c4,c5,c6,c7,c8,c9,c10,c11,c12,c13,c14,c15,c16,c17,c18,c19,c20,c21,c22,c23,c24,c25,c26,c27,c28,c29,c30,c31,c32,c33,c34,c35,c36⟩:=wbox (show w.heap[B]?=some (.cells (wdV d ms ds) 85 (0,0)) from (by rw [←HV.out];exact hSw));go_simp)⟩) HC.out ?_;(try simp only [Act.put,List.setIfInBounds_toArray,List.set_cons_zero,List.set_cons_succ]))
 (refine takeD (i:=4) (v:=.agg #[.int .i64 d.ch.kind,.int .i64 d.ch.zone,.int .i64 d.ch.epoch,.int .i64 d.ch.tt,.string d.ch.key]) 53 rfl rfl (by kernel_rfl) (by kernel_rfl) (by kernel_rfl) (fun _ _ _ h=>h) (Or.inl ⟨by rfl,fun w hSw=>(by obtain ⟨c0,c1,c2,c3,c4,c5,c6,c7,c8,c9,c10,c11,c12,c13,c14,c15,c16,c17,c18,c19,c20,c21,c22,c23,c24,c25,c26,c27,c28,c29,c30,c31,c32,c33,c34,c35,c36⟩:=wbox (show w.heap[B]?=some (.cells (wdV d ms ds) 85 (0,0)) from (by rw [←HV.out];exact hSw));go_simp)⟩) HC.out ?_;(try simp only [Act.put,List.setIfInBounds_toArray,List.set_cons_zero,List.set_cons_succ]))
 ((refine wpAnyH_all (rs:=[2]) (by kernel_rfl) (by simp) (fun i' hi'=>?_);(obtain rfl:i'=2:=by simpa using hi');clear hi';(refine wpOp_step rfl (fun K' hK'=>?_)));go_simp;(refine (O.isChange_any d.ch wd).mono ?_);(rintro e w5 ⟨rfl,hb5⟩);(have S:=Lib.hid (S.out.grow hb5));(have HC:Hid (w5.heap[B]?=some (.cells V 85 (0,0))):=Lib.hid (S.out.pull (A:=[_])).head);(refine hK' _ _ ⟨HC.out,?_⟩);clear hK' K' hb5;(try simp only [Act.put,List.setIfInBounds_toArray,List.set_cons_zero,List.set_cons_succ]))
 (refine takeD (i:=5) (v:=.bool (mayC d.ch)) 6 rfl rfl (by kernel_rfl) (by kernel_rfl) (by kernel_rfl) (fun _ _ _ h=>h) (Or.inl ⟨by rfl,fun w hSw=>(by obtain ⟨c0,c1,c2,c3,c4,c5,c6,c7,c8,c9,c10,c11,c12,c13,c14,c15,c16,c17,c18,c19,c20,c21,c22,c23,c24,c25,c26,c27,c28,c29,c30,c31,c32,c33,c34,c35,c36⟩:=wbox (show w.heap[B]?=some (.cells (wdV d ms ds) 85 (0,0)) from (by rw [←HV.out];exact hSw));go_simp)⟩) HC.out ?_;(try simp only [Act.put,List.setIfInBounds_toArray,List.set_cons_zero,List.set_cons_succ]))
 (refine takeD (i:=6) (v:=.pointer (some ⟨P,27,none⟩)) 54 rfl rfl (by kernel_rfl) (by kernel_rfl) (by kernel_rfl) (fun _ _ _ h=>h) (Or.inl ⟨by rfl,fun w hSw=>(by obtain ⟨c0,c1,c2,c3,c4,c5,c6,c7,c8,c9,c10,c11,c12,c13,c14,c15,c16,c17,c18,c19,c20,c21,c22,c23,c24,c25,c26,c27,c28,c29,c30,c31,c32,c33,c34,c35,c36⟩:=wbox (show w.heap[B]?=some (.cells (wdV d ms ds) 85 (0,0)) from (by rw [←HV.out];exact hSw));go_simp)⟩) HC.out ?_;(try simp only [Act.put,List.setIfInBounds_toArray,List.set_cons_zero,List.set_cons_succ]))
 (refine wpAnyH_all (rs:=[7]) (by kernel_rfl) (by simp) (fun i' hi'=>?_);(obtain rfl:i'=7:=by simpa using hi');clear hi';(refine wpOp_step rfl (fun K' hK'=>?_)))
 ((obtain ⟨p1,p2,p3⟩:=S.out.cellsN 0 rfl);go_simp;(refine hK' _ _ ⟨?_,anyH_name fun w5 hw5=>?_⟩);(exact ((((((S.out.setObj 27 (.int .i64 d.ch.kind)).setObj 28 (.int .i64 d.ch.zone)).setObj 29 (.int .i64 d.ch.epoch)).setObj 30 (.int .i64 d.ch.tt)).setObj 31 (.string d.ch.key)).pull (A:=[_])).head);(have S:=Lib.hid ((((((S.out.setObj 27 (.int .i64 d.ch.kind)).setObj 28 (.int .i64 d.ch.zone)).setObj 29 (.int .i64 d.ch.epoch)).setObj 30 (.int .i64 d.ch.tt)).setObj 31 (.string d.ch.key))));(rw [←hw5] at S);(simp only [List.setIfInBounds_toArray,List.set_cons_zero,List.set_cons_succ] at S);(have HC:Hid (w5.heap[B]?=some (.cells V 85 (0,0))):=Lib.hid (S.out.pull (A:=[_])).head);clear hw5 p1 p2 p3 hK' K';(try simp only [Act.put,List.setIfInBounds_toArray,List.set_cons_zero,List.set_cons_succ]))
 ((refine wpAnyH_done (by kernel_rfl) ?_ _);(refine NoPanic.normal ?_);(go_wp2_with fail))
 exact hT _ ({ pl0 with ch:=d.ch }) (mayC d.ch) false false _ _ _ _ _ _ _ _ _ _ _ _ _ _ _ _ _ _ _ _ _ _ _ _ _ _ _ _ _ _ _ _ _ _ _ _ _ _ _ _ _ _ _ _ _ _ _ _ _ _ _ _ _ _ _ _ _ _ _ _ _ _ _ _ _ _ _ _ _ _ _ _ _ _ _ _ _ _ _ _ _ _ _ _ _ _ _ _ _ _ _ _ _ _ _ _ _ _ _ _ _ _ _ _ _ _ _ _ _ _ _ _ _ _ _ _ _ _ _ _ _ _ _ _ _ _ _ _ _ _ _ _ _ _ _ _ _ _ _ S.out hr
end Go.Proofs.YtogamdaomdoapaaGreat