/- Texts put together: WQ3, WQ4. -/
import Derived.Test.YtogamdaomdoapaaGreatSa40
import Derived.Test.YtogamdaomdoapaaGreatSa41
namespace Go.Proofs.YtogamdaomdoapaaGreat
set_option maxRecDepth 20000
open Go.RowKit
set_option maxHeartbeats 4000000 in
theorem may_q5 {c:Code} (hb:(Tryz.f23).body=some c) {d:Wd} {ms ds:Value} {V:Array Value} (hV:V=wdV d ms ds) (ao dl:Option Addr) (zc dc:Nat) (hms:ms=.slice ao d.mp.zs.length zc) (hds:ds=.slice dl d.data.length dc) (w wa:World) (_hz:O.ZsAt w ao d.mp.zs) (_hbd:BAt w dl d.data) (_hl:d.mp.zs.length≤1000) (B P:Nat) (hk:d.kind=5)
 (H:Hid (St w wa [thObj P (.cells #[.int .i64 d.kind,.int .i64 0,.int .i64 0,.int .i64 0,.int .i64 0,.int .i64 0,.int .i64 0,.int .i64 0,.string ⟨#[]⟩,.string ⟨#[]⟩,.int .i64 0,.int .i64 0,.int .i64 0,.string ⟨#[]⟩,.string ⟨#[]⟩,.string ⟨#[]⟩,.string ⟨#[]⟩,.int .i64 0,.int .i64 0,.int .i64 0,.bool false,.int .i64 0,.int .i64 0,.int .i64 0,.int .i64 0,.int .i64 0,.int .i64 0,.int .i64 0,.int .i64 0,.int .i64 0,.slice none 0 0,.int .i64 0,.int .i64 0,.int .i64 0,.int .i64 0,.string ⟨#[]⟩,.slice none 0 0] 49 (0,0)),thObj B (.cells V 49 (0,0))])) (r:Bool) (hr:r=docW d)
 {K2:Act→World→Prop} (hT:TailOkD K2 w V B P r d) {j5 j6 j7:Value}:(fstC (sndC (sndC (sndC c)))).wp Tryz.prog (Exit.then K2 (mayQD w r)) { tmps:=#[.agg V,.pointer (some ⟨B,0,none⟩),.bool false,.pointer (some ⟨P,0,none⟩),.bool true,j5,j6,j7,undef,undef,undef,undef,undef,undef,undef,undef,undef,undef,undef,undef,undef,undef,undef,undef,undef,undef,undef,undef,undef,undef,undef,undef,undef,undef,undef,undef,undef,undef,undef,undef,undef,undef,undef,undef,undef,undef,undef,undef,undef,undef,undef,undef,undef,undef,undef,undef,undef,undef,undef,undef,undef,undef,undef,undef,undef,undef,undef,undef,undef,undef,undef,undef,undef,undef,undef,undef,undef,undef,undef,undef,undef,undef,undef,undef,undef,undef,undef,undef,undef,undef,undef,undef,undef,undef,undef,undef,undef,undef,undef,undef,undef,undef,undef,undef,undef,undef,undef,undef,undef,undef,undef,undef,undef,undef,undef,undef,undef,undef,undef,undef,undef,undef,undef,undef,undef,undef,undef,undef,undef,undef,undef,undef,undef,undef,undef,undef,undef,undef,undef,undef,undef,undef,undef,undef,undef,undef,undef,undef,undef,undef,undef,undef,undef,undef,undef,undef,undef,undef,undef,undef,undef,undef,undef,undef,undef,undef,undef,undef,undef,undef,undef,undef,undef,undef,undef,undef,undef,undef,undef,undef,undef,undef,undef,undef,undef,undef,undef,undef,undef,undef,undef,undef,undef,undef,undef,undef,undef,undef,undef,undef,undef,undef,undef,undef,undef,undef,undef,undef,undef,undef,undef,undef],defers:=[] } wa:=by
 have HV:=Lib.hid hV
 clear hV
 rw [docW_is] at hr
 have e2:namedW d={ pl0 with op:=d.op }:=by simp [namedW,hk]
 have e3:mapW d=mp0:=by simp [mapW,hasM,hk]
 have e4:dataW d=[]:=by simp [dataW,hasD,hk]
 rw [e2,e3,e4] at hr
 clear e2 e3 e4
 have e1:okD d=(mayO d.op):=by simp [okD,hk]
 rw [e1] at hr
 clear e1
 have Hr:=Lib.hid hr
 clear hr
 subst hms hds
 cases hb
 simp only [sndC,fstC]
 have S:=H
 clear H
 have s0:=(S.out.cellsN 1 rfl).1
 obtain ⟨c0,c1,c2,c3,c4,c5,c6,c7,c8,c9,c10,c11,c12,c13,c14,c15,c16,c17,c18,c19,c20,c21,c22,c23,c24,c25,c26,c27,c28,c29,c30,c31,c32,c33,c34,c35,c36⟩:=wboxD (show wa.heap[B]?=some (.cells (wdV d (.slice ao d.mp.zs.length zc) (.slice dl d.data.length dc)) 49 (0,0)) from (by rw [←HV.out];exact (S.out.pull (A:=[_])).head))
 rw [hk] at c0
 clear c1 c2 c3 c4 c5 c6 c7 c8 c9 c10 c11 c12 c13 c14 c15 c16 c17 c18 c19 c20 c21 c22 c23 c24 c25 c26 c27 c28 c29 c30 c31 c32 c33 c34 c35 c36
 refine wp_hold fun C HC=>?_
 go_wp2_with fail
 (have hC:=HC.out);clear HC;subst hC
 clear c0 s0
 refine wp_block ?_
 iterate 4 ((refine wp_hold fun C HC=>?_);(go_wp2_with fail);(have hC:=HC.out);clear HC;subst hC;(refine wp_cond_false rfl ?_))
 ((refine wp_hold fun C HC=>?_);(go_wp2_with fail);(have hC:=HC.out);clear HC;subst hC;(refine wp_cond_true rfl ?_))
 refine wp_hold fun C2 HC2=>?_
 obtain ⟨c0,c1,c2,c3,c4,c5,c6,c7,c8,c9,c10,c11,c12,c13,c14,c15,c16,c17,c18,c19,c20,c21,c22,c23,c24,c25,c26,c27,c28,c29,c30,c31,c32,c33,c34,c35,c36⟩:=wboxD (show wa.heap[B]?=some (.cells (wdV d (.slice ao d.mp.zs.length zc) (.slice dl d.data.length dc)) 49 (0,0)) from (by rw [←HV.out];exact (S.out.pull (A:=[_])).head))
 have sB:=(S.out.cellsN 1 rfl).1
 clear c0 c1 c2 c3 c4 c5 c6 c7 c8 c9 c22 c23 c24 c25 c26 c27 c28 c29 c30 c31 c32 c33 c34 c35 c36
 obtain ⟨p1,p2,p3⟩:=S.out.cellsN 0 rfl
 go_wp2_with fail
 (have hC:=HC2.out);clear HC2;subst hC
 clear p1 p2 p3 sB c10 c11 c12 c13 c14 c15 c16 c17 c18 c19 c20 c21
 ((refine wp_name fun w5 hw5=>?_);(have S:=Lib.hid (((((((((((((S.out.setObj 10 (.int .i64 d.op.kind)).setObj 11 (.int .i64 d.op.client)).setObj 12 (.int .i64 d.op.seq)).setObj 13 (.string d.op.key)).setObj 14 (.string d.op.who)).setObj 15 (.string d.op.tkey)).setObj 16 (.string d.op.twho)).setObj 17 (.int .i64 d.op.item)).setObj 18 (.int .i64 d.op.count)).setObj 19 (.int .i64 d.op.price)).setObj 20 (.bool d.op.buy)).setObj 21 (.int .i64 d.op.id))));(rw [←hw5] at S);(simp only [List.setIfInBounds_toArray,List.set_cons_zero,List.set_cons_succ] at S);clear hw5)
 obtain ⟨c0,c1,c2,c3,c4,c5,c6,c7,c8,c9,c10,c11,c12,c13,c14,c15,c16,c17,c18,c19,c20,c21,c22,c23,c24,c25,c26,c27,c28,c29,c30,c31,c32,c33,c34,c35,c36⟩:=wboxD (show w5.heap[B]?=some (.cells (wdV d (.slice ao d.mp.zs.length zc) (.slice dl d.data.length dc)) 49 (0,0)) from (by rw [←HV.out];exact (S.out.pull (A:=[_])).head))
 have sB:=(S.out.cellsN 1 rfl).1
 clear c0 c1 c2 c3 c4 c5 c6 c7 c8 c9 c22 c23 c24 c25 c26 c27 c28 c29 c30 c31 c32 c33 c34 c35 c36
 go_wp2_with fail
 refine (rmay_any d.op w5 _ rfl).mono ?_
 rintro e w6 ⟨rfl,hb6⟩
 have S:=Lib.hid (S.out.grow hb6)
 clear hb6 sB c10 c11 c12 c13 c14 c15 c16 c17 c18 c19 c20 c21
 go_wp2_with fail
 (exact hT _ (xW d ({ pl0 with op:=d.op }) (mp0) ([])) none none 0 0 (mayO d.op) _ _ _ _ _ _ _ _ _ _ _ _ _ _ _ _ _ _ _ _ _ _ _ _ _ _ _ _ _ _ _ _ _ _ _ _ _ _ _ _ _ _ _ _ _ _ _ _ _ _ _ _ _ _ _ _ _ _ _ _ _ _ _ _ _ _ _ _ _ _ _ _ _ _ _ _ _ _ _ _ _ _ _ _ _ _ _ _ _ _ _ _ _ _ _ _ _ _ _ _ _ _ _ _ _ _ _ _ _ _ _ _ _ _ _ _ _ _ _ _ _ _ _ _ _ _ _ _ _ _ _ _ _ _ _ _ _ _ _ _ _ _ _ _ _ _ _ _ _ _ _ _ _ _ _ _ _ _ _ _ _ _ _ _ _ _ _ _ _ _ _ _ _ _ _ _ _ _ _ _ _ _ _ _ _ _ _ _ _ _ _ _ _ _ _ _ _ S.out (zs_nil _) (ba_nil _) (Nat.zero_le _) (Hr.out))
end Go.Proofs.YtogamdaomdoapaaGreat
namespace Go.Proofs.YtogamdaomdoapaaGreat
set_option maxRecDepth 20000
open Go.RowKit
set_option maxHeartbeats 4000000 in
theorem may_q6 {c:Code} (hb:(Tryz.f23).body=some c) {d:Wd} {ms ds:Value} {V:Array Value} (hV:V=wdV d ms ds) (ao dl:Option Addr) (zc dc:Nat) (hms:ms=.slice ao d.mp.zs.length zc) (hds:ds=.slice dl d.data.length dc) (w wa:World) (_hz:O.ZsAt w ao d.mp.zs) (_hbd:BAt w dl d.data) (_hl:d.mp.zs.length≤1000) (B P:Nat) (hk:d.kind=6)
 (H:Hid (St w wa [thObj P (.cells #[.int .i64 d.kind,.int .i64 0,.int .i64 0,.int .i64 0,.int .i64 0,.int .i64 0,.int .i64 0,.int .i64 0,.string ⟨#[]⟩,.string ⟨#[]⟩,.int .i64 0,.int .i64 0,.int .i64 0,.string ⟨#[]⟩,.string ⟨#[]⟩,.string ⟨#[]⟩,.string ⟨#[]⟩,.int .i64 0,.int .i64 0,.int .i64 0,.bool false,.int .i64 0,.int .i64 0,.int .i64 0,.int .i64 0,.int .i64 0,.int .i64 0,.int .i64 0,.int .i64 0,.int .i64 0,.slice none 0 0,.int .i64 0,.int .i64 0,.int .i64 0,.int .i64 0,.string ⟨#[]⟩,.slice none 0 0] 49 (0,0)),thObj B (.cells V 49 (0,0))])) (r:Bool) (hr:r=docW d)
 {K2:Act→World→Prop} (hT:TailOkD K2 w V B P r d) {j5 j6 j7:Value}:(fstC (sndC (sndC (sndC c)))).wp Tryz.prog (Exit.then K2 (mayQD w r)) { tmps:=#[.agg V,.pointer (some ⟨B,0,none⟩),.bool false,.pointer (some ⟨P,0,none⟩),.bool true,j5,j6,j7,undef,undef,undef,undef,undef,undef,undef,undef,undef,undef,undef,undef,undef,undef,undef,undef,undef,undef,undef,undef,undef,undef,undef,undef,undef,undef,undef,undef,undef,undef,undef,undef,undef,undef,undef,undef,undef,undef,undef,undef,undef,undef,undef,undef,undef,undef,undef,undef,undef,undef,undef,undef,undef,undef,undef,undef,undef,undef,undef,undef,undef,undef,undef,undef,undef,undef,undef,undef,undef,undef,undef,undef,undef,undef,undef,undef,undef,undef,undef,undef,undef,undef,undef,undef,undef,undef,undef,undef,undef,undef,undef,undef,undef,undef,undef,undef,undef,undef,undef,undef,undef,undef,undef,undef,undef,undef,undef,undef,undef,undef,undef,undef,undef,undef,undef,undef,undef,undef,undef,undef,undef,undef,undef,undef,undef,undef,undef,undef,undef,undef,undef,undef,undef,undef,undef,undef,undef,undef,undef,undef,undef,undef,undef,undef,undef,undef,undef,undef,undef,undef,undef,undef,undef,undef,undef,undef,undef,undef,undef,undef,undef,undef,undef,undef,undef,undef,undef,undef,undef,undef,undef,undef,undef,undef,undef,undef,undef,undef,undef,undef,undef,undef,undef,undef,undef,undef,undef,undef,undef,undef,undef,undef,undef,undef,undef,undef,undef,undef,undef,undef,undef,undef,undef,undef],defers:=[] } wa:=by
 have hs:V.size=37:=by rw [hV];rfl
 have HV:=Lib.hid hV
 clear hV
 rw [docW_is] at hr
 have e2:namedW d={ pl0 with op:=d.op,err:=d.err,rep:=d.rep,host:=d.host }:=by simp [namedW,hk]
 have e3:mapW d=mp0:=by simp [mapW,hasM,hk]
 have e4:dataW d=[]:=by simp [dataW,hasD,hk]
 rw [e2,e3,e4] at hr
 clear e2 e3 e4
 have e1:okD d=(ansD d):=by simp [okD,hk,ansD]
 rw [e1] at hr
 clear e1
 have Hr:=Lib.hid hr
 clear hr
 subst hms hds
 cases hb
 simp only [sndC,fstC]
 have S:=H
 clear H
 have s0:=(S.out.cellsN 1 rfl).1
 obtain ⟨c0,c1,c2,c3,c4,c5,c6,c7,c8,c9,c10,c11,c12,c13,c14,c15,c16,c17,c18,c19,c20,c21,c22,c23,c24,c25,c26,c27,c28,c29,c30,c31,c32,c33,c34,c35,c36⟩:=wboxD (show wa.heap[B]?=some (.cells (wdV d (.slice ao d.mp.zs.length zc) (.slice dl d.data.length dc)) 49 (0,0)) from (by rw [←HV.out];exact (S.out.pull (A:=[_])).head))
 rw [hk] at c0
 clear c1 c2 c3 c4 c5 c6 c7 c8 c9 c10 c11 c12 c13 c14 c15 c16 c17 c18 c19 c20 c21 c22 c23 c24 c25 c26 c27 c28 c29 c30 c31 c32 c33 c34 c35 c36
 refine wp_hold fun C HC=>?_
 go_wp2_with fail
 (have hC:=HC.out);clear HC;subst hC
 clear c0 s0
 refine wp_block ?_
 iterate 5 ((refine wp_hold fun C HC=>?_);(go_wp2_with fail);(have hC:=HC.out);clear HC;subst hC;(refine wp_cond_false rfl ?_))
 ((refine wp_hold fun C HC=>?_);(go_wp2_with fail);(have hC:=HC.out);clear HC;subst hC;(refine wp_cond_true rfl ?_))
 refine wp_hold fun C2 HC2=>?_
 refine wp_seq ?_
 ((obtain ⟨wd,hwd⟩:∃ wd,wd=wa.drew:=⟨_,rfl⟩);(have S:=Lib.hid (S.out.grow (w':=wd) (by rw [hwd];exact (Below.refl _ _).drew)));(have HC:Hid (wd.heap[B]?=some (.cells V 49 (0,0))):=Lib.hid (S.out.pull (A:=[_])).head);(refine wp_region_noPanic ?_);(refine wp_region_held (S:=(fun W:World=>W.heap[B]?=some (.cells V 49 (0,0)))) (by kernel_rfl) ?_);change wpAnyH _ _ _ _ _ _ _ _ (World.drew _);(rw [←hwd]);clear hwd)
 (refine takeD (i:=0) (v:=.pointer (some ⟨B,10,none⟩)) 50 rfl rfl (by kernel_rfl) (by kernel_rfl) (by kernel_rfl) (fun _ _ _ h=>h) (Or.inl ⟨by rfl,fun w hSw=>(by obtain ⟨c0,c1,c2,c3,c4,c5,c6,c7,c8,c9,c10,c11,c12,c13,c14,c15,c16,c17,c18,c19,c20,c21,c22,c23,c24,c25,c26,c27,c28,c29,c30,c31,c32,c33,c34,c35,c36⟩:=wboxD (show w.heap[B]?=some (.cells (wdV d (.slice ao d.mp.zs.length zc) (.slice dl d.data.length dc)) 49 (0,0)) from (by rw [←HV.out];exact hSw));go_simp)⟩) HC.out ?_;(try simp only [Act.put,List.setIfInBounds_toArray,List.set_cons_zero,List.set_cons_succ]))
 (refine takeD (i:=1) (v:=.agg #[.int .i64 d.op.kind,.int .i64 d.op.client,.int .i64 d.op.seq,.string d.op.key,.string d.op.who,.string d.op.tkey,.string d.op.twho,.int .i64 d.op.item,.int .i64 d.op.count,.int .i64 d.op.price,.bool d.op.buy,.int .i64 d.op.id]) 51 rfl rfl (by kernel_rfl) (by kernel_rfl) (by kernel_rfl) (fun _ _ _ h=>h) (Or.inl ⟨by rfl,fun w hSw=>(by obtain ⟨c0,c1,c2,c3,c4,c5,c6,c7,c8,c9,c10,c11,c12,c13,c14,c15,c16,c17,c18,c19,c20,c21,c22,c23,c24,c25,c26,c27,c28,c29,c30,c31,c32,c33,c34,c35,c36⟩:=wboxD (show w.heap[B]?=some (.cells (wdV d (.slice ao d.mp.zs.length zc) (.slice dl d.data.length dc)) 49 (0,0)) from (by rw [←HV.out];exact hSw));go_simp)⟩) HC.out ?_;(try simp only [Act.put,List.setIfInBounds_toArray,List.set_cons_zero,List.set_cons_succ]))
 (refine takeD (i:=2) (v:=.pointer (some ⟨B,7,none⟩)) 52 rfl rfl (by kernel_rfl) (by kernel_rfl) (by kernel_rfl) (fun _ _ _ h=>h) (Or.inl ⟨by rfl,fun w hSw=>(by obtain ⟨c0,c1,c2,c3,c4,c5,c6,c7,c8,c9,c10,c11,c12,c13,c14,c15,c16,c17,c18,c19,c20,c21,c22,c23,c24,c25,c26,c27,c28,c29,c30,c31,c32,c33,c34,c35,c36⟩:=wboxD (show w.heap[B]?=some (.cells (wdV d (.slice ao d.mp.zs.length zc) (.slice dl d.data.length dc)) 49 (0,0)) from (by rw [←HV.out];exact hSw));go_simp)⟩) HC.out ?_;(try simp only [Act.put,List.setIfInBounds_toArray,List.set_cons_zero,List.set_cons_succ]))
 (refine takeD (i:=3) (v:=.int .i64 d.err) 53 rfl rfl (by kernel_rfl) (by kernel_rfl) (by kernel_rfl) (fun _ _ _ h=>h) (Or.inl ⟨by rfl,fun w hSw=>(by obtain ⟨c0,c1,c2,c3,c4,c5,c6,c7,c8,c9,c10,c11,c12,c13,c14,c15,c16,c17,c18,c19,c20,c21,c22,c23,c24,c25,c26,c27,c28,c29,c30,c31,c32,c33,c34,c35,c36⟩:=wboxD (show w.heap[B]?=some (.cells (wdV d (.slice ao d.mp.zs.length zc) (.slice dl d.data.length dc)) 49 (0,0)) from (by rw [←HV.out];exact hSw));go_simp)⟩) HC.out ?_;(try simp only [Act.put,List.setIfInBounds_toArray,List.set_cons_zero,List.set_cons_succ]))
 (refine takeD (i:=4) (v:=.pointer (some ⟨B,22,none⟩)) 54 rfl rfl (by kernel_rfl) (by kernel_rfl) (by kernel_rfl) (fun _ _ _ h=>h) (Or.inl ⟨by rfl,fun w hSw=>(by obtain ⟨c0,c1,c2,c3,c4,c5,c6,c7,c8,c9,c10,c11,c12,c13,c14,c15,c16,c17,c18,c19,c20,c21,c22,c23,c24,c25,c26,c27,c28,c29,c30,c31,c32,c33,c34,c35,c36⟩:=wboxD (show w.heap[B]?=some (.cells (wdV d (.slice ao d.mp.zs.length zc) (.slice dl d.data.length dc)) 49 (0,0)) from (by rw [←HV.out];exact hSw));go_simp)⟩) HC.out ?_;(try simp only [Act.put,List.setIfInBounds_toArray,List.set_cons_zero,List.set_cons_succ]))
 (refine takeD (i:=5) (v:=.agg #[.int .i64 d.rep.err,.int .i64 d.rep.id,.int .i64 d.rep.i.a,.int .i64 d.rep.i.b,.int .i64 d.rep.i.c,.int .i64 d.rep.i.d]) 55 rfl rfl (by kernel_rfl) (by kernel_rfl) (by kernel_rfl) (fun _ _ _ h=>h) (Or.inl ⟨by rfl,fun w hSw=>(by obtain ⟨c0,c1,c2,c3,c4,c5,c6,c7,c8,c9,c10,c11,c12,c13,c14,c15,c16,c17,c18,c19,c20,c21,c22,c23,c24,c25,c26,c27,c28,c29,c30,c31,c32,c33,c34,c35,c36⟩:=wboxD (show w.heap[B]?=some (.cells (wdV d (.slice ao d.mp.zs.length zc) (.slice dl d.data.length dc)) 49 (0,0)) from (by rw [←HV.out];exact hSw));go_simp)⟩) HC.out ?_;(try simp only [Act.put,List.setIfInBounds_toArray,List.set_cons_zero,List.set_cons_succ]))
 (refine takeD (i:=6) (v:=.pointer (some ⟨B,6,none⟩)) 56 rfl rfl (by kernel_rfl) (by kernel_rfl) (by kernel_rfl) (fun _ _ _ h=>h) (Or.inl ⟨by rfl,fun w hSw=>(by obtain ⟨c0,c1,c2,c3,c4,c5,c6,c7,c8,c9,c10,c11,c12,c13,c14,c15,c16,c17,c18,c19,c20,c21,c22,c23,c24,c25,c26,c27,c28,c29,c30,c31,c32,c33,c34,c35,c36⟩:=wboxD (show w.heap[B]?=some (.cells (wdV d (.slice ao d.mp.zs.length zc) (.slice dl d.data.length dc)) 49 (0,0)) from (by rw [←HV.out];exact hSw));go_simp)⟩) HC.out ?_;(try simp only [Act.put,List.setIfInBounds_toArray,List.set_cons_zero,List.set_cons_succ]))
 (refine takeD (i:=7) (v:=.int .i64 d.host) 57 rfl rfl (by kernel_rfl) (by kernel_rfl) (by kernel_rfl) (fun _ _ _ h=>h) (Or.inl ⟨by rfl,fun w hSw=>(by obtain ⟨c0,c1,c2,c3,c4,c5,c6,c7,c8,c9,c10,c11,c12,c13,c14,c15,c16,c17,c18,c19,c20,c21,c22,c23,c24,c25,c26,c27,c28,c29,c30,c31,c32,c33,c34,c35,c36⟩:=wboxD (show w.heap[B]?=some (.cells (wdV d (.slice ao d.mp.zs.length zc) (.slice dl d.data.length dc)) 49 (0,0)) from (by rw [←HV.out];exact hSw));go_simp)⟩) HC.out ?_;(try simp only [Act.put,List.setIfInBounds_toArray,List.set_cons_zero,List.set_cons_succ]))
 (refine takeD (i:=8) (v:=.pointer (some ⟨P,10,none⟩)) 58 rfl rfl (by kernel_rfl) (by kernel_rfl) (by kernel_rfl) (fun _ _ _ h=>h) (Or.inl ⟨by rfl,fun w hSw=>(by obtain ⟨c0,c1,c2,c3,c4,c5,c6,c7,c8,c9,c10,c11,c12,c13,c14,c15,c16,c17,c18,c19,c20,c21,c22,c23,c24,c25,c26,c27,c28,c29,c30,c31,c32,c33,c34,c35,c36⟩:=wboxD (show w.heap[B]?=some (.cells (wdV d (.slice ao d.mp.zs.length zc) (.slice dl d.data.length dc)) 49 (0,0)) from (by rw [←HV.out];exact hSw));go_simp)⟩) HC.out ?_;(try simp only [Act.put,List.setIfInBounds_toArray,List.set_cons_zero,List.set_cons_succ]))
 (refine wpAnyH_all (rs:=[9]) (by kernel_rfl) (by simp) (fun i' hi'=>?_);(obtain rfl:i'=9:=by simpa using hi');clear hi';(refine wpOp_step rfl (fun K' hK'=>?_)))
 ((obtain ⟨p1,p2,p3⟩:=S.out.cellsN 0 rfl);go_simp;(refine hK' _ _ ⟨?_,anyH_name fun w5 hw5=>?_⟩);(exact (((((((((((((S.out.setObj 10 (.int .i64 d.op.kind)).setObj 11 (.int .i64 d.op.client)).setObj 12 (.int .i64 d.op.seq)).setObj 13 (.string d.op.key)).setObj 14 (.string d.op.who)).setObj 15 (.string d.op.tkey)).setObj 16 (.string d.op.twho)).setObj 17 (.int .i64 d.op.item)).setObj 18 (.int .i64 d.op.count)).setObj 19 (.int .i64 d.op.price)).setObj 20 (.bool d.op.buy)).setObj 21 (.int .i64 d.op.id)).pull (A:=[_])).head);(have S:=Lib.hid (((((((((((((S.out.setObj 10 (.int .i64 d.op.kind)).setObj 11 (.int .i64 d.op.client)).setObj 12 (.int .i64 d.op.seq)).setObj 13 (.string d.op.key)).setObj 14 (.string d.op.who)).setObj 15 (.string d.op.tkey)).setObj 16 (.string d.op.twho)).setObj 17 (.int .i64 d.op.item)).setObj 18 (.int .i64 d.op.count)).setObj 19 (.int .i64 d.op.price)).setObj 20 (.bool d.op.buy)).setObj 21 (.int .i64 d.op.id))));(rw [←hw5] at S);(simp only [List.setIfInBounds_toArray,List.set_cons_zero,List.set_cons_succ] at S);(have HC:Hid (w5.heap[B]?=some (.cells V 49 (0,0))):=Lib.hid (S.out.pull (A:=[_])).head);clear hw5 p1 p2 p3 hK' K';(try simp only [Act.put,List.setIfInBounds_toArray,List.set_cons_zero,List.set_cons_succ]))
 (refine takeD (i:=10) (v:=.pointer (some ⟨P,7,none⟩)) 59 rfl rfl (by kernel_rfl) (by kernel_rfl) (by kernel_rfl) (fun _ _ _ h=>h) (Or.inl ⟨by rfl,fun w hSw=>(by obtain ⟨c0,c1,c2,c3,c4,c5,c6,c7,c8,c9,c10,c11,c12,c13,c14,c15,c16,c17,c18,c19,c20,c21,c22,c23,c24,c25,c26,c27,c28,c29,c30,c31,c32,c33,c34,c35,c36⟩:=wboxD (show w.heap[B]?=some (.cells (wdV d (.slice ao d.mp.zs.length zc) (.slice dl d.data.length dc)) 49 (0,0)) from (by rw [←HV.out];exact hSw));go_simp)⟩) HC.out ?_;(try simp only [Act.put,List.setIfInBounds_toArray,List.set_cons_zero,List.set_cons_succ]))
 (refine wpAnyH_all (rs:=[11]) (by kernel_rfl) (by simp) (fun i' hi'=>?_);(obtain rfl:i'=11:=by simpa using hi');clear hi';(refine wpOp_step rfl (fun K' hK'=>?_)))
 ((obtain ⟨p1,p2,p3⟩:=S.out.cellsN 0 rfl);go_simp;(refine hK' _ _ ⟨?_,anyH_name fun w5 hw5=>?_⟩);(exact ((S.out.setObj 7 (.int .i64 d.err)).pull (A:=[_])).head);(have S:=Lib.hid ((S.out.setObj 7 (.int .i64 d.err))));(rw [←hw5] at S);(simp only [List.setIfInBounds_toArray,List.set_cons_zero,List.set_cons_succ] at S);(have HC:Hid (w5.heap[B]?=some (.cells V 49 (0,0))):=Lib.hid (S.out.pull (A:=[_])).head);clear hw5 p1 p2 p3 hK' K';(try simp only [Act.put,List.setIfInBounds_toArray,List.set_cons_zero,List.set_cons_succ]))
 (refine takeD (i:=12) (v:=.pointer (some ⟨P,22,none⟩)) 60 rfl rfl (by kernel_rfl) (by kernel_rfl) (by kernel_rfl) (fun _ _ _ h=>h) (Or.inl ⟨by rfl,fun w hSw=>(by obtain ⟨c0,c1,c2,c3,c4,c5,c6,c7,c8,c9,c10,c11,c12,c13,c14,c15,c16,c17,c18,c19,c20,c21,c22,c23,c24,c25,c26,c27,c28,c29,c30,c31,c32,c33,c34,c35,c36⟩:=wboxD (show w.heap[B]?=some (.cells (wdV d (.slice ao d.mp.zs.length zc) (.slice dl d.data.length dc)) 49 (0,0)) from (by rw [←HV.out];exact hSw));go_simp)⟩) HC.out ?_;(try simp only [Act.put,List.setIfInBounds_toArray,List.set_cons_zero,List.set_cons_succ]))
 (refine wpAnyH_all (rs:=[13]) (by kernel_rfl) (by simp) (fun i' hi'=>?_);(obtain rfl:i'=13:=by simpa using hi');clear hi';(refine wpOp_step rfl (fun K' hK'=>?_)))
 ((obtain ⟨p1,p2,p3⟩:=S.out.cellsN 0 rfl);go_simp;(refine hK' _ _ ⟨?_,anyH_name fun w5 hw5=>?_⟩);(exact (((((((S.out.setObj 22 (.int .i64 d.rep.err)).setObj 23 (.int .i64 d.rep.id)).setObj 24 (.int .i64 d.rep.i.a)).setObj 25 (.int .i64 d.rep.i.b)).setObj 26 (.int .i64 d.rep.i.c)).setObj 27 (.int .i64 d.rep.i.d)).pull (A:=[_])).head);(have S:=Lib.hid (((((((S.out.setObj 22 (.int .i64 d.rep.err)).setObj 23 (.int .i64 d.rep.id)).setObj 24 (.int .i64 d.rep.i.a)).setObj 25 (.int .i64 d.rep.i.b)).setObj 26 (.int .i64 d.rep.i.c)).setObj 27 (.int .i64 d.rep.i.d))));(rw [←hw5] at S);(simp only [List.setIfInBounds_toArray,List.set_cons_zero,List.set_cons_succ] at S);(have HC:Hid (w5.heap[B]?=some (.cells V 49 (0,0))):=Lib.hid (S.out.pull (A:=[_])).head);clear hw5 p1 p2 p3 hK' K';(try simp only [Act.put,List.setIfInBounds_toArray,List.set_cons_zero,List.set_cons_succ]))
 (refine takeD (i:=14) (v:=.pointer (some ⟨P,6,none⟩)) 61 rfl rfl (by kernel_rfl) (by kernel_rfl) (by kernel_rfl) (fun _ _ _ h=>h) (Or.inl ⟨by rfl,fun w hSw=>(by obtain ⟨c0,c1,c2,c3,c4,c5,c6,c7,c8,c9,c10,c11,c12,c13,c14,c15,c16,c17,c18,c19,c20,c21,c22,c23,c24,c25,c26,c27,c28,c29,c30,c31,c32,c33,c34,c35,c36⟩:=wboxD (show w.heap[B]?=some (.cells (wdV d (.slice ao d.mp.zs.length zc) (.slice dl d.data.length dc)) 49 (0,0)) from (by rw [←HV.out];exact hSw));go_simp)⟩) HC.out ?_;(try simp only [Act.put,List.setIfInBounds_toArray,List.set_cons_zero,List.set_cons_succ]))
 (refine wpAnyH_all (rs:=[15]) (by kernel_rfl) (by simp) (fun i' hi'=>?_);(obtain rfl:i'=15:=by simpa using hi');clear hi';(refine wpOp_step rfl (fun K' hK'=>?_)))
 ((obtain ⟨p1,p2,p3⟩:=S.out.cellsN 0 rfl);go_simp;(refine hK' _ _ ⟨?_,anyH_name fun w5 hw5=>?_⟩);(exact ((S.out.setObj 6 (.int .i64 d.host)).pull (A:=[_])).head);(have S:=Lib.hid ((S.out.setObj 6 (.int .i64 d.host))));(rw [←hw5] at S);(simp only [List.setIfInBounds_toArray,List.set_cons_zero,List.set_cons_succ] at S);(have HC:Hid (w5.heap[B]?=some (.cells V 49 (0,0))):=Lib.hid (S.out.pull (A:=[_])).head);clear hw5 p1 p2 p3 hK' K';(try simp only [Act.put,List.setIfInBounds_toArray,List.set_cons_zero,List.set_cons_succ]))
 ((refine wpAnyH_done (by kernel_rfl) ?_ _);(refine NoPanic.normal ?_);(go_wp2_with fail))
 (have hC:=HC2.out);clear HC2;subst hC
 clear HC
 refine wp_region_lit ?_
 (refine wpList_load_row rfl 49 _ rfl B rfl _ _ _ _ ((S.out.pull (A:=[_])).head) Tryz.underlying49 rfl (by rw [hs];kernel_rfl) ?_)
 go_wp2_with fail
 refine (answerD_any HV.out _).mono ?_
 rintro e w6 ⟨rfl,hb6⟩
 have S:=Lib.hid (S.out.grow hb6)
 clear hb6
 go_wp2_with fail
 (exact hT _ (xW d ({ pl0 with op:=d.op,err:=d.err,rep:=d.rep,host:=d.host }) (mp0) ([])) none none 0 0 (ansD d) _ _ _ _ _ _ _ _ _ _ _ _ _ _ _ _ _ _ _ _ _ _ _ _ _ _ _ _ _ _ _ _ _ _ _ _ _ _ _ _ _ _ _ _ _ _ _ _ _ _ _ _ _ _ _ _ _ _ _ _ _ _ _ _ _ _ _ _ _ _ _ _ _ _ _ _ _ _ _ _ _ _ _ _ _ _ _ _ _ _ _ _ _ _ _ _ _ _ _ _ _ _ _ _ _ _ _ _ _ _ _ _ _ _ _ _ _ _ _ _ _ _ _ _ _ _ _ _ _ _ _ _ _ _ _ _ _ _ _ _ _ _ _ _ _ _ _ _ _ _ _ _ _ _ _ _ _ _ _ _ _ _ _ _ _ _ _ _ _ _ _ _ _ _ _ _ _ _ _ _ _ _ _ _ _ _ _ _ _ _ _ _ _ _ _ _ _ S.out (zs_nil _) (ba_nil _) (Nat.zero_le _) (Hr.out))
end Go.Proofs.YtogamdaomdoapaaGreat