/- Texts put together: WQ7, WRy, FrRef, WRd, WLw, GtA. -/
import Derived.Test.YtogamdaomdoapaaGreatSa02
import Derived.Test.YtogamdaomdoapaaGreatSa16
import Derived.Test.YtogamdaomdoapaaGreatSa18
import Derived.Test.YtogamdaomdoapaaGreatSa28
import Derived.Test.YtogamdaomdoapaaGreatSa30
import Derived.Test.YtogamdaomdoapaaGreatSa32
import Derived.Test.YtogamdaomdoapaaGreatSa33
import Derived.Test.YtogamdaomdoapaaGreatSa34
import Derived.Test.YtogamdaomdoapaaGreatSa35
import Derived.Test.YtogamdaomdoapaaGreatSa36
import Derived.Test.YtogamdaomdoapaaGreatSa40
import Derived.Test.YtogamdaomdoapaaGreatSa41
import Derived.Test.YtogamdaomdoapaaGreatSa42
import Derived.Test.YtogamdaomdoapaaGreatSa43
import Derived.Test.YtogamdaomdoapaaGreatSa44
import Derived.Test.YtogamdaomdoapaaGreatSa45
import Derived.IntWalk
namespace Go.Proofs.YtogamdaomdoapaaGreat
set_option maxRecDepth 20000
open Go.RowKit
set_option maxHeartbeats 4000000 in
theorem may_q9 {c:Code} (hb:(Tryz.f23).body=some c) {d:Wd} {ms ds:Value} {V:Array Value} (hV:V=wdV d ms ds) (ao dl:Option Addr) (zc dc:Nat) (hms:ms=.slice ao d.mp.zs.length zc) (hds:ds=.slice dl d.data.length dc) (w wa:World) (_hz:O.ZsAt w ao d.mp.zs) (hbd:BAt w dl d.data) (_hl:d.mp.zs.length≤1000) (B P:Nat) (hk:d.kind=9)
 (H:Hid (St w wa [thObj P (.cells #[.int .i64 d.kind,.int .i64 0,.int .i64 0,.int .i64 0,.int .i64 0,.int .i64 0,.int .i64 0,.int .i64 0,.string ⟨#[]⟩,.string ⟨#[]⟩,.int .i64 0,.int .i64 0,.int .i64 0,.string ⟨#[]⟩,.string ⟨#[]⟩,.string ⟨#[]⟩,.string ⟨#[]⟩,.int .i64 0,.int .i64 0,.int .i64 0,.bool false,.int .i64 0,.int .i64 0,.int .i64 0,.int .i64 0,.int .i64 0,.int .i64 0,.int .i64 0,.int .i64 0,.int .i64 0,.slice none 0 0,.int .i64 0,.int .i64 0,.int .i64 0,.int .i64 0,.string ⟨#[]⟩,.slice none 0 0] 49 (0,0)),thObj B (.cells V 49 (0,0))])) (r:Bool) (hr:r=docW d)
 {K2:Act→World→Prop} (hT:TailOkD K2 w V B P r d) {j5 j6 j7:Value}:(fstC (sndC (sndC (sndC c)))).wp Tryz.prog (Exit.then K2 (mayQD w r)) { tmps:=#[.agg V,.pointer (some ⟨B,0,none⟩),.bool false,.pointer (some ⟨P,0,none⟩),.bool true,j5,j6,j7,undef,undef,undef,undef,undef,undef,undef,undef,undef,undef,undef,undef,undef,undef,undef,undef,undef,undef,undef,undef,undef,undef,undef,undef,undef,undef,undef,undef,undef,undef,undef,undef,undef,undef,undef,undef,undef,undef,undef,undef,undef,undef,undef,undef,undef,undef,undef,undef,undef,undef,undef,undef,undef,undef,undef,undef,undef,undef,undef,undef,undef,undef,undef,undef,undef,undef,undef,undef,undef,undef,undef,undef,undef,undef,undef,undef,undef,undef,undef,undef,undef,undef,undef,undef,undef,undef,undef,undef,undef,undef,undef,undef,undef,undef,undef,undef,undef,undef,undef,undef,undef,undef,undef,undef,undef,undef,undef,undef,undef,undef,undef,undef,undef,undef,undef,undef,undef,undef,undef,undef,undef,undef,undef,undef,undef,undef,undef,undef,undef,undef,undef,undef,undef,undef,undef,undef,undef,undef,undef,undef,undef,undef,undef,undef,undef,undef,undef,undef,undef,undef,undef,undef,undef,undef,undef,undef,undef,undef,undef,undef,undef,undef,undef,undef,undef,undef,undef,undef,undef,undef,undef,undef,undef,undef,undef,undef,undef,undef,undef,undef,undef,undef,undef,undef,undef,undef,undef,undef,undef,undef,undef,undef,undef,undef,undef,undef,undef,undef,undef,undef,undef,undef,undef,undef],defers:=[] } wa:=by
 have HV:=Lib.hid hV
 have Hbd:=Lib.hid hbd
 clear hV hbd
 rw [docW_is] at hr
 have e2:namedW d={ pl0 with zone:=d.zone,epoch:=d.epoch,index:=d.index }:=by simp [namedW,hk]
 have e3:mapW d=mp0:=by simp [mapW,hasM,hk]
 have e4:dataW d=d.data:=by simp [dataW,hasD,hk]
 rw [e2,e3,e4] at hr
 clear e2 e3 e4
 have Hr:=Lib.hid hr
 clear hr
 subst hms hds
 cases hb
 simp only [sndC,fstC]
 have S:=H
 clear H
 have s0:=(S.out.cellsN 1 rfl).1
 obtain ⟨c0,c1,c2,c3,c4,c5,c6,c7,c8,c9,c10,c11,c12,c13,c14,c15,c16,c17,c18,c19,c20,c21,c22,c23,c24,c25,c26,c27,c28,c29,c30,c31,c32,c33,c34,c35,c36⟩:=wboxD (show wa.heap[B]?=some (.cells (wdV d (.slice ao d.mp.zs.length zc) (.slice dl d.data.length dc)) 49 (0,0)) from (by rw [←HV.out];exact (S.out.pull (A:=[_])).head))
 rw [hk] at c0
 clear c1 c2 c3 c4 c5 c6 c7 c8 c9 c10 c11 c12 c13 c14 c15 c16 c17 c18 c19 c20 c21 c22 c23 c24 c25 c26 c27 c28 c29 c30 c31 c32 c33 c34 c35 c36
 refine wp_hold fun C HC=>?_
 go_wp2_with fail
 (have hC:=HC.out);clear HC;subst hC
 clear c0 s0
 refine wp_block ?_
 iterate 8 ((refine wp_hold fun C HC=>?_);(go_wp2_with fail);(have hC:=HC.out);clear HC;subst hC;(refine wp_cond_false rfl ?_))
 ((refine wp_hold fun C HC=>?_);(go_wp2_with fail);(have hC:=HC.out);clear HC;subst hC;(refine wp_cond_true rfl ?_))
 refine wp_hold fun C2 HC2=>?_
 refine wp_seq ?_
 ((obtain ⟨wd,hwd⟩:∃ wd,wd=wa.drew:=⟨_,rfl⟩);(have S:=Lib.hid (S.out.grow (w':=wd) (by rw [hwd];exact (Below.refl _ _).drew)));(have HC:Hid (wd.heap[B]?=some (.cells V 49 (0,0))):=Lib.hid (S.out.pull (A:=[_])).head);(refine wp_region_noPanic ?_);(refine wp_region_held (S:=(fun W:World=>W.heap[B]?=some (.cells V 49 (0,0)))) (by kernel_rfl) ?_);change wpAnyH _ _ _ _ _ _ _ _ (World.drew _);(rw [←hwd]);clear hwd)
 (refine takeD (i:=0) (v:=.pointer (some ⟨B,1,none⟩)) 157 rfl rfl (by kernel_rfl) (by kernel_rfl) (by kernel_rfl) (fun _ _ _ h=>h) (Or.inl ⟨by rfl,fun w hSw=>(by obtain ⟨c0,c1,c2,c3,c4,c5,c6,c7,c8,c9,c10,c11,c12,c13,c14,c15,c16,c17,c18,c19,c20,c21,c22,c23,c24,c25,c26,c27,c28,c29,c30,c31,c32,c33,c34,c35,c36⟩:=wboxD (show w.heap[B]?=some (.cells (wdV d (.slice ao d.mp.zs.length zc) (.slice dl d.data.length dc)) 49 (0,0)) from (by rw [←HV.out];exact hSw));go_simp)⟩) HC.out ?_;(try simp only [Act.put,List.setIfInBounds_toArray,List.set_cons_zero,List.set_cons_succ]))
 (refine takeD (i:=1) (v:=.int .i64 d.zone) 158 rfl rfl (by kernel_rfl) (by kernel_rfl) (by kernel_rfl) (fun _ _ _ h=>h) (Or.inl ⟨by rfl,fun w hSw=>(by obtain ⟨c0,c1,c2,c3,c4,c5,c6,c7,c8,c9,c10,c11,c12,c13,c14,c15,c16,c17,c18,c19,c20,c21,c22,c23,c24,c25,c26,c27,c28,c29,c30,c31,c32,c33,c34,c35,c36⟩:=wboxD (show w.heap[B]?=some (.cells (wdV d (.slice ao d.mp.zs.length zc) (.slice dl d.data.length dc)) 49 (0,0)) from (by rw [←HV.out];exact hSw));go_simp)⟩) HC.out ?_;(try simp only [Act.put,List.setIfInBounds_toArray,List.set_cons_zero,List.set_cons_succ]))
 (refine takeD (i:=2) (v:=.pointer (some ⟨B,2,none⟩)) 159 rfl rfl (by kernel_rfl) (by kernel_rfl) (by kernel_rfl) (fun _ _ _ h=>h) (Or.inl ⟨by rfl,fun w hSw=>(by obtain ⟨c0,c1,c2,c3,c4,c5,c6,c7,c8,c9,c10,c11,c12,c13,c14,c15,c16,c17,c18,c19,c20,c21,c22,c23,c24,c25,c26,c27,c28,c29,c30,c31,c32,c33,c34,c35,c36⟩:=wboxD (show w.heap[B]?=some (.cells (wdV d (.slice ao d.mp.zs.length zc) (.slice dl d.data.length dc)) 49 (0,0)) from (by rw [←HV.out];exact hSw));go_simp)⟩) HC.out ?_;(try simp only [Act.put,List.setIfInBounds_toArray,List.set_cons_zero,List.set_cons_succ]))
 (refine takeD (i:=3) (v:=.int .i64 d.epoch) 160 rfl rfl (by kernel_rfl) (by kernel_rfl) (by kernel_rfl) (fun _ _ _ h=>h) (Or.inl ⟨by rfl,fun w hSw=>(by obtain ⟨c0,c1,c2,c3,c4,c5,c6,c7,c8,c9,c10,c11,c12,c13,c14,c15,c16,c17,c18,c19,c20,c21,c22,c23,c24,c25,c26,c27,c28,c29,c30,c31,c32,c33,c34,c35,c36⟩:=wboxD (show w.heap[B]?=some (.cells (wdV d (.slice ao d.mp.zs.length zc) (.slice dl d.data.length dc)) 49 (0,0)) from (by rw [←HV.out];exact hSw));go_simp)⟩) HC.out ?_;(try simp only [Act.put,List.setIfInBounds_toArray,List.set_cons_zero,List.set_cons_succ]))
 (refine takeD (i:=4) (v:=.pointer (some ⟨B,3,none⟩)) 161 rfl rfl (by kernel_rfl) (by kernel_rfl) (by kernel_rfl) (fun _ _ _ h=>h) (Or.inl ⟨by rfl,fun w hSw=>(by obtain ⟨c0,c1,c2,c3,c4,c5,c6,c7,c8,c9,c10,c11,c12,c13,c14,c15,c16,c17,c18,c19,c20,c21,c22,c23,c24,c25,c26,c27,c28,c29,c30,c31,c32,c33,c34,c35,c36⟩:=wboxD (show w.heap[B]?=some (.cells (wdV d (.slice ao d.mp.zs.length zc) (.slice dl d.data.length dc)) 49 (0,0)) from (by rw [←HV.out];exact hSw));go_simp)⟩) HC.out ?_;(try simp only [Act.put,List.setIfInBounds_toArray,List.set_cons_zero,List.set_cons_succ]))
 (refine takeD (i:=5) (v:=.int .i64 d.index) 162 rfl rfl (by kernel_rfl) (by kernel_rfl) (by kernel_rfl) (fun _ _ _ h=>h) (Or.inl ⟨by rfl,fun w hSw=>(by obtain ⟨c0,c1,c2,c3,c4,c5,c6,c7,c8,c9,c10,c11,c12,c13,c14,c15,c16,c17,c18,c19,c20,c21,c22,c23,c24,c25,c26,c27,c28,c29,c30,c31,c32,c33,c34,c35,c36⟩:=wboxD (show w.heap[B]?=some (.cells (wdV d (.slice ao d.mp.zs.length zc) (.slice dl d.data.length dc)) 49 (0,0)) from (by rw [←HV.out];exact hSw));go_simp)⟩) HC.out ?_;(try simp only [Act.put,List.setIfInBounds_toArray,List.set_cons_zero,List.set_cons_succ]))
 (refine takeD (i:=6) (v:=.pointer (some ⟨B,36,none⟩)) 163 rfl rfl (by kernel_rfl) (by kernel_rfl) (by kernel_rfl) (fun _ _ _ h=>h) (Or.inl ⟨by rfl,fun w hSw=>(by obtain ⟨c0,c1,c2,c3,c4,c5,c6,c7,c8,c9,c10,c11,c12,c13,c14,c15,c16,c17,c18,c19,c20,c21,c22,c23,c24,c25,c26,c27,c28,c29,c30,c31,c32,c33,c34,c35,c36⟩:=wboxD (show w.heap[B]?=some (.cells (wdV d (.slice ao d.mp.zs.length zc) (.slice dl d.data.length dc)) 49 (0,0)) from (by rw [←HV.out];exact hSw));go_simp)⟩) HC.out ?_;(try simp only [Act.put,List.setIfInBounds_toArray,List.set_cons_zero,List.set_cons_succ]))
 (refine takeD (i:=7) (v:=.slice dl d.data.length dc) 164 rfl rfl (by kernel_rfl) (by kernel_rfl) (by kernel_rfl) (fun _ _ _ h=>h) (Or.inl ⟨by rfl,fun w hSw=>(by obtain ⟨c0,c1,c2,c3,c4,c5,c6,c7,c8,c9,c10,c11,c12,c13,c14,c15,c16,c17,c18,c19,c20,c21,c22,c23,c24,c25,c26,c27,c28,c29,c30,c31,c32,c33,c34,c35,c36⟩:=wboxD (show w.heap[B]?=some (.cells (wdV d (.slice ao d.mp.zs.length zc) (.slice dl d.data.length dc)) 49 (0,0)) from (by rw [←HV.out];exact hSw));go_simp)⟩) HC.out ?_;(try simp only [Act.put,List.setIfInBounds_toArray,List.set_cons_zero,List.set_cons_succ]))
 (refine takeD (i:=8) (v:=.pointer (some ⟨P,1,none⟩)) 165 rfl rfl (by kernel_rfl) (by kernel_rfl) (by kernel_rfl) (fun _ _ _ h=>h) (Or.inl ⟨by rfl,fun w hSw=>(by obtain ⟨c0,c1,c2,c3,c4,c5,c6,c7,c8,c9,c10,c11,c12,c13,c14,c15,c16,c17,c18,c19,c20,c21,c22,c23,c24,c25,c26,c27,c28,c29,c30,c31,c32,c33,c34,c35,c36⟩:=wboxD (show w.heap[B]?=some (.cells (wdV d (.slice ao d.mp.zs.length zc) (.slice dl d.data.length dc)) 49 (0,0)) from (by rw [←HV.out];exact hSw));go_simp)⟩) HC.out ?_;(try simp only [Act.put,List.setIfInBounds_toArray,List.set_cons_zero,List.set_cons_succ]))
 (refine wpAnyH_all (rs:=[9]) (by kernel_rfl) (by simp) (fun i' hi'=>?_);(obtain rfl:i'=9:=by simpa using hi');clear hi';(refine wpOp_step rfl (fun K' hK'=>?_)))
 ((obtain ⟨p1,p2,p3⟩:=S.out.cellsN 0 rfl);go_simp;(refine hK' _ _ ⟨?_,anyH_name fun w5 hw5=>?_⟩);(exact ((S.out.setObj 1 (.int .i64 d.zone)).pull (A:=[_])).head);(have S:=Lib.hid ((S.out.setObj 1 (.int .i64 d.zone))));(rw [←hw5] at S);(simp only [List.setIfInBounds_toArray,List.set_cons_zero,List.set_cons_succ] at S);(have HC:Hid (w5.heap[B]?=some (.cells V 49 (0,0))):=Lib.hid (S.out.pull (A:=[_])).head);clear hw5 p1 p2 p3 hK' K';(try simp only [Act.put,List.setIfInBounds_toArray,List.set_cons_zero,List.set_cons_succ]))
 (refine takeD (i:=10) (v:=.pointer (some ⟨P,2,none⟩)) 166 rfl rfl (by kernel_rfl) (by kernel_rfl) (by kernel_rfl) (fun _ _ _ h=>h) (Or.inl ⟨by rfl,fun w hSw=>(by obtain ⟨c0,c1,c2,c3,c4,c5,c6,c7,c8,c9,c10,c11,c12,c13,c14,c15,c16,c17,c18,c19,c20,c21,c22,c23,c24,c25,c26,c27,c28,c29,c30,c31,c32,c33,c34,c35,c36⟩:=wboxD (show w.heap[B]?=some (.cells (wdV d (.slice ao d.mp.zs.length zc) (.slice dl d.data.length dc)) 49 (0,0)) from (by rw [←HV.out];exact hSw));go_simp)⟩) HC.out ?_;(try simp only [Act.put,List.setIfInBounds_toArray,List.set_cons_zero,List.set_cons_succ]))
 (refine wpAnyH_all (rs:=[11]) (by kernel_rfl) (by simp) (fun i' hi'=>?_);(obtain rfl:i'=11:=by simpa using hi');clear hi';(refine wpOp_step rfl (fun K' hK'=>?_)))
 ((obtain ⟨p1,p2,p3⟩:=S.out.cellsN 0 rfl);go_simp;(refine hK' _ _ ⟨?_,anyH_name fun w5 hw5=>?_⟩);(exact ((S.out.setObj 2 (.int .i64 d.epoch)).pull (A:=[_])).head);(have S:=Lib.hid ((S.out.setObj 2 (.int .i64 d.epoch))));(rw [←hw5] at S);(simp only [List.setIfInBounds_toArray,List.set_cons_zero,List.set_cons_succ] at S);(have HC:Hid (w5.heap[B]?=some (.cells V 49 (0,0))):=Lib.hid (S.out.pull (A:=[_])).head);clear hw5 p1 p2 p3 hK' K';(try simp only [Act.put,List.setIfInBounds_toArray,List.set_cons_zero,List.set_cons_succ]))
 (refine takeD (i:=12) (v:=.pointer (some ⟨P,3,none⟩)) 167 rfl rfl (by kernel_rfl) (by kernel_rfl) (by kernel_rfl) (fun _ _ _ h=>h) (Or.inl ⟨by rfl,fun w hSw=>(by obtain ⟨c0,c1,c2,c3,c4,c5,c6,c7,c8,c9,c10,c11,c12,c13,c14,c15,c16,c17,c18,c19,c20,c21,c22,c23,c24,c25,c26,c27,c28,c29,c30,c31,c32,c33,c34,c35,c36⟩:=wboxD (show w.heap[B]?=some (.cells (wdV d (.slice ao d.mp.zs.length zc) (.slice dl d.data.length dc)) 49 (0,0)) from (by rw [←HV.out];exact hSw));go_simp)⟩) HC.out ?_;(try simp only [Act.put,List.setIfInBounds_toArray,List.set_cons_zero,List.set_cons_succ]))
 (refine wpAnyH_all (rs:=[13]) (by kernel_rfl) (by simp) (fun i' hi'=>?_);(obtain rfl:i'=13:=by simpa using hi');clear hi';(refine wpOp_step rfl (fun K' hK'=>?_)))
 ((obtain ⟨p1,p2,p3⟩:=S.out.cellsN 0 rfl);go_simp;(refine hK' _ _ ⟨?_,anyH_name fun w5 hw5=>?_⟩);(exact ((S.out.setObj 3 (.int .i64 d.index)).pull (A:=[_])).head);(have S:=Lib.hid ((S.out.setObj 3 (.int .i64 d.index))));(rw [←hw5] at S);(simp only [List.setIfInBounds_toArray,List.set_cons_zero,List.set_cons_succ] at S);(have HC:Hid (w5.heap[B]?=some (.cells V 49 (0,0))):=Lib.hid (S.out.pull (A:=[_])).head);clear hw5 p1 p2 p3 hK' K';(try simp only [Act.put,List.setIfInBounds_toArray,List.set_cons_zero,List.set_cons_succ]))
 (refine takeD (i:=14) (v:=.pointer (some ⟨P,36,none⟩)) 168 rfl rfl (by kernel_rfl) (by kernel_rfl) (by kernel_rfl) (fun _ _ _ h=>h) (Or.inl ⟨by rfl,fun w hSw=>(by obtain ⟨c0,c1,c2,c3,c4,c5,c6,c7,c8,c9,c10,c11,c12,c13,c14,c15,c16,c17,c18,c19,c20,c21,c22,c23,c24,c25,c26,c27,c28,c29,c30,c31,c32,c33,c34,c35,c36⟩:=wboxD (show w.heap[B]?=some (.cells (wdV d (.slice ao d.mp.zs.length zc) (.slice dl d.data.length dc)) 49 (0,0)) from (by rw [←HV.out];exact hSw));go_simp)⟩) HC.out ?_;(try simp only [Act.put,List.setIfInBounds_toArray,List.set_cons_zero,List.set_cons_succ]))
 (refine wpAnyH_all (rs:=[15]) (by kernel_rfl) (by simp) (fun i' hi'=>?_);(obtain rfl:i'=15:=by simpa using hi');clear hi';(refine wpOp_step rfl (fun K' hK'=>?_)))
 ((obtain ⟨p1,p2,p3⟩:=S.out.cellsN 0 rfl);go_simp;(refine hK' _ _ ⟨?_,anyH_name fun w5 hw5=>?_⟩);(exact ((S.out.setObj 36 (.slice dl d.data.length dc)).pull (A:=[_])).head);(have S:=Lib.hid ((S.out.setObj 36 (.slice dl d.data.length dc))));(rw [←hw5] at S);(simp only [List.setIfInBounds_toArray,List.set_cons_zero,List.set_cons_succ] at S);(have HC:Hid (w5.heap[B]?=some (.cells V 49 (0,0))):=Lib.hid (S.out.pull (A:=[_])).head);clear hw5 p1 p2 p3 hK' K';(try simp only [Act.put,List.setIfInBounds_toArray,List.set_cons_zero,List.set_cons_succ]))
 ((refine wpAnyH_done (by kernel_rfl) ?_ _);(refine NoPanic.normal ?_);(go_wp2_with fail))
 (have hC:=HC2.out);clear HC2;subst hC
 clear HC
 obtain ⟨c0,c1,c2,c3,c4,c5,c6,c7,c8,c9,c10,c11,c12,c13,c14,c15,c16,c17,c18,c19,c20,c21,c22,c23,c24,c25,c26,c27,c28,c29,c30,c31,c32,c33,c34,c35,c36⟩:=wboxD (show w5.heap[B]?=some (.cells (wdV d (.slice ao d.mp.zs.length zc) (.slice dl d.data.length dc)) 49 (0,0)) from (by rw [←HV.out];exact (S.out.pull (A:=[_])).head))
 have sB:=(S.out.cellsN 1 rfl).1
 clear c0 c3 c4 c5 c6 c7 c8 c9 c10 c11 c12 c13 c14 c15 c16 c17 c18 c19 c20 c21 c22 c23 c24 c25 c26 c27 c28 c29 c30 c31 c32 c33 c34 c35
 have e1:okD d=decide (0<d.zone∧0<d.epoch∧0<d.data.length):=by simp only [okD,hk,Int.reduceEq,if_false,if_true];congr 1;simp only [eq_iff_iff,ne_eq,←List.length_eq_zero_iff];omega
 have hrr:=Hr.out
 go_wp2_with fail
 all_goals first | (exact hT _ (xW d ({ pl0 with zone:=d.zone,epoch:=d.epoch,index:=d.index }) (mp0) (d.data)) none dl 0 dc (false) _ _ _ _ _ _ _ _ _ _ _ _ _ _ _ _ _ _ _ _ _ _ _ _ _ _ _ _ _ _ _ _ _ _ _ _ _ _ _ _ _ _ _ _ _ _ _ _ _ _ _ _ _ _ _ _ _ _ _ _ _ _ _ _ _ _ _ _ _ _ _ _ _ _ _ _ _ _ _ _ _ _ _ _ _ _ _ _ _ _ _ _ _ _ _ _ _ _ _ _ _ _ _ _ _ _ _ _ _ _ _ _ _ _ _ _ _ _ _ _ _ _ _ _ _ _ _ _ _ _ _ _ _ _ _ _ _ _ _ _ _ _ _ _ _ _ _ _ _ _ _ _ _ _ _ _ _ _ _ _ _ _ _ _ _ _ _ _ _ _ _ _ _ _ _ _ _ _ _ _ _ _ _ _ _ _ _ _ _ _ _ _ _ _ _ _ _ S.out (zs_nil _) Hbd.out (Nat.zero_le _) ((hrr.trans (by rw [e1,decide_eq_false (by omega)])))) | (exact hT _ (xW d ({ pl0 with zone:=d.zone,epoch:=d.epoch,index:=d.index }) (mp0) (d.data)) none dl 0 dc (decide (0<d.data.length)) _ _ _ _ _ _ _ _ _ _ _ _ _ _ _ _ _ _ _ _ _ _ _ _ _ _ _ _ _ _ _ _ _ _ _ _ _ _ _ _ _ _ _ _ _ _ _ _ _ _ _ _ _ _ _ _ _ _ _ _ _ _ _ _ _ _ _ _ _ _ _ _ _ _ _ _ _ _ _ _ _ _ _ _ _ _ _ _ _ _ _ _ _ _ _ _ _ _ _ _ _ _ _ _ _ _ _ _ _ _ _ _ _ _ _ _ _ _ _ _ _ _ _ _ _ _ _ _ _ _ _ _ _ _ _ _ _ _ _ _ _ _ _ _ _ _ _ _ _ _ _ _ _ _ _ _ _ _ _ _ _ _ _ _ _ _ _ _ _ _ _ _ _ _ _ _ _ _ _ _ _ _ _ _ _ _ _ _ _ _ _ _ _ _ _ _ _ S.out (zs_nil _) Hbd.out (Nat.zero_le _) ((hrr.trans (by rw [e1,show decide (0<d.zone∧0<d.epoch∧0<d.data.length)=decide (0<d.data.length) from (by congr 1;simp only [eq_iff_iff];omega)]))))
end Go.Proofs.YtogamdaomdoapaaGreat
namespace Go.Proofs.YtogamdaomdoapaaGreat
set_option maxRecDepth 20000
open Go.RowKit
theorem St.setRow {W w:World} {L:List Th} {b:Nat} {cur:Array Value} {t:TypeId} (h:St W w (thObj b (.cells cur t (0,0))::L)) (cs:Array Value) (_:cs.size=37):St W (w.setRow b cs) (thObj b (.cells cs t (0,0))::L) :=
 h.step (w':=w.setRow b cs) ⟨rfl,rfl,rfl,by simp,fun k _ hn=>setRow_other w b k cs (fun e=>hn e)⟩ _ (setRow_heap w b cur cs t (0,0) h.head) (fun _ hx=>.inl hx)
set_option maxHeartbeats 4000000 in
theorem rmayW_any {d:Wd} {ms ds:Value} {V:Array Value} (hV:V=wdV d ms ds) (ao dl:Option Addr) (zc dc:Nat) (hms:ms=.slice ao d.mp.zs.length zc) (hds:ds=.slice dl d.data.length dc) (w:World) (hz:O.ZsAt w ao d.mp.zs) (hbd:BAt w dl d.data) (hl:d.mp.zs.length≤1000):Calls Tryz.prog 23 #[.agg V] w fun e w'=>e=.returned (.bool (docW d))∧Below w.heap.size w w':=by
 have HV:=Lib.hid hV
 have Hz:=Lib.hid hz
 have Hbd:=Lib.hid hbd
 have Hms:=Lib.hid hms
 have Hds:=Lib.hid hds
 obtain ⟨r,hr⟩:∃ r,r=docW d:=⟨_,rfl⟩
 rw [←hr]
 have Hr:=Lib.hid hr
 clear hV hz hbd hms hds hr
 go_enter Tryz.func23,Tryz.ntmps23
 refine wp_holdQ fun R HR=>?_
 refine wp_hold fun C HC=>?_
 go_wp2_with fail
 refine wp_name fun wa hwa=>?_
 obtain ⟨B,hB⟩:∃ B,B=w.heap.size:=⟨_,rfl⟩
 have S:Hid (St w wa [thObj B (.cells V 49 (0,0))]):=by rw [hwa];exact Lib.hid ((St.start w).objN _ B hB)
 rw [←hB]
 clear hwa hB
 (have hC:=HC.out);clear HC;subst hC
 refine wp_hold fun C HC=>?_
 obtain ⟨c0,c1,c2,c3,c4,c5,c6,c7,c8,c9,c10,c11,c12,c13,c14,c15,c16,c17,c18,c19,c20,c21,c22,c23,c24,c25,c26,c27,c28,c29,c30,c31,c32,c33,c34,c35,c36⟩:=wboxD (show wa.heap[B]?=some (.cells (wdV d ms ds) 49 (0,0)) from (by rw [←HV.out];exact S.out.head))
 have sB:=(S.out.cellsN 0 rfl).1
 clear c1 c2 c3 c4 c5 c6 c7 c8 c9 c10 c11 c12 c13 c14 c15 c16 c17 c18 c19 c20 c21 c22 c23 c24 c25 c26 c27 c28 c29 c30 c31 c32 c33 c34 c35 c36
 refine wp_seq ?_
 refine wp_region_lit ?_
 refine list_hold 4 fun L HLL=>?_
 simp only [List.take_succ_cons,List.take_zero,List.cons_append,List.nil_append]
 go_wp2_with fail
 refine list_name fun w1 hw1=>?_
 obtain ⟨P,hP⟩:∃ P,P=wa.heap.size:=⟨_,rfl⟩
 have S1:Hid (St w w1 [thObj P (.cells #[.int .i64 0,.int .i64 0,.int .i64 0,.int .i64 0,.int .i64 0,.int .i64 0,.int .i64 0,.int .i64 0,.string ⟨#[]⟩,.string ⟨#[]⟩,.int .i64 0,.int .i64 0,.int .i64 0,.string ⟨#[]⟩,.string ⟨#[]⟩,.string ⟨#[]⟩,.string ⟨#[]⟩,.int .i64 0,.int .i64 0,.int .i64 0,.bool false,.int .i64 0,.int .i64 0,.int .i64 0,.int .i64 0,.int .i64 0,.int .i64 0,.int .i64 0,.int .i64 0,.int .i64 0,.slice none 0 0,.int .i64 0,.int .i64 0,.int .i64 0,.int .i64 0,.string ⟨#[]⟩,.slice none 0 0] 49 (0,0)),thObj B (.cells V 49 (0,0))]):=by rw [hw1];exact Lib.hid (S.out.objN _ P hP)
 rw [←hP]
 clear hw1 hP S c0 sB
 (have hL:=HLL.out);clear HLL;subst hL
 simp only [List.drop_succ_cons,List.drop_zero]
 refine wpList_store_row rfl 49 _ _ rfl P #[.int .i64 d.kind,.int .i64 0,.int .i64 0,.int .i64 0,.int .i64 0,.int .i64 0,.int .i64 0,.int .i64 0,.string ⟨#[]⟩,.string ⟨#[]⟩,.int .i64 0,.int .i64 0,.int .i64 0,.string ⟨#[]⟩,.string ⟨#[]⟩,.string ⟨#[]⟩,.string ⟨#[]⟩,.int .i64 0,.int .i64 0,.int .i64 0,.bool false,.int .i64 0,.int .i64 0,.int .i64 0,.int .i64 0,.int .i64 0,.int .i64 0,.int .i64 0,.int .i64 0,.int .i64 0,.slice none 0 0,.int .i64 0,.int .i64 0,.int .i64 0,.int .i64 0,.string ⟨#[]⟩,.slice none 0 0] rfl rfl 49 _ S1.out.head (by kernel_rfl) rfl (by simp [Value.oneCell']) ?_
 have S2:=Lib.hid (S1.out.setRow #[.int .i64 d.kind,.int .i64 0,.int .i64 0,.int .i64 0,.int .i64 0,.int .i64 0,.int .i64 0,.int .i64 0,.string ⟨#[]⟩,.string ⟨#[]⟩,.int .i64 0,.int .i64 0,.int .i64 0,.string ⟨#[]⟩,.string ⟨#[]⟩,.string ⟨#[]⟩,.string ⟨#[]⟩,.int .i64 0,.int .i64 0,.int .i64 0,.bool false,.int .i64 0,.int .i64 0,.int .i64 0,.int .i64 0,.int .i64 0,.int .i64 0,.int .i64 0,.int .i64 0,.int .i64 0,.slice none 0 0,.int .i64 0,.int .i64 0,.int .i64 0,.int .i64 0,.string ⟨#[]⟩,.slice none 0 0] rfl)
 clear S1
 refine list_name fun w2 hw2=>?_
 rw [←hw2] at S2
 clear hw2
 go_wp2_with fail
 (have hC:=HC.out);clear HC;subst hC
 refine wp_hold fun C HC=>?_
 go_wp2_with fail
 (have hC:=HC.out);clear HC;subst hC
 refine wp_seq_k fun K2 hK2=>?_
 have hT:TailOkD K2 w V B P r d:=by
  intro w3 X aX dX kX cX ok j5 j6 j7 j8 j9 j10 j11 j12 j13 j14 j15 j16 j17 j18 j19 j20 j21 j22 j23 j24 j25 j26 j27 j28 j29 j30 j31 j32 j33 j34 j35 j36 j37 j38 j39 j40 j41 j42 j43 j44 j45 j46 j47 j48 j49 j50 j51 j52 j53 j54 j55 j56 j57 j58 j59 j60 j61 j62 j63 j64 j65 j66 j67 j68 j69 j70 j71 j72 j73 j74 j75 j76 j77 j78 j79 j80 j81 j82 j83 j84 j85 j86 j87 j88 j89 j90 j91 j92 j93 j94 j95 j96 j97 j98 j99 j100 j101 j102 j103 j104 j105 j106 j107 j108 j109 j110 j111 j112 j113 j114 j115 j116 j117 j118 j119 j120 j121 j122 j123 j124 j125 j126 j127 j128 j129 j130 j131 j132 j133 j134 j135 j136 j137 j138 j139 j140 j141 j142 j143 j144 j145 j146 j147 j148 j149 j150 j151 j152 j153 j154 j155 j156 j157 j158 j159 j160 j161 j162 j163 j164 j165 j166 j167 j168 j169 j170 j171 j172 j173 j174 j175 j176 j177 j178 j179 j180 j181 j182 j183 j184 j185 j186 j187 j188 j189 j190 j191 j192 j193 j194 j195 j196 j197 j198 j199 j200 j201 S3 hzX hbX hmX hr3
  refine hK2 _ _ ?_
  rw [HR.out]
  exact may_tailD rfl HV.out rfl ao dl aX dX zc dc kX cX Hms.out Hds.out rfl rfl w w3 Hz.out hzX Hbd.out hbX hmX B P ok (Lib.hid S3) r hr3
 clear hK2
 rw [HR.out]
 clear HR
 by_cases k1:d.kind=1
 ·exact may_q1 rfl HV.out ao dl zc dc Hms.out Hds.out w w2 Hz.out Hbd.out hl B P k1 S2 r Hr.out hT
 by_cases k2:d.kind=2
 ·exact may_q2 rfl HV.out ao dl zc dc Hms.out Hds.out w w2 Hz.out Hbd.out hl B P k2 S2 r Hr.out hT
 by_cases k3:d.kind=3
 ·exact may_q3 rfl HV.out ao dl zc dc Hms.out Hds.out w w2 Hz.out Hbd.out hl B P k3 S2 r Hr.out hT
 by_cases k4:d.kind=4
 ·exact may_q4 rfl HV.out ao dl zc dc Hms.out Hds.out w w2 Hz.out Hbd.out hl B P k4 S2 r Hr.out hT
 by_cases k5:d.kind=5
 ·exact may_q5 rfl HV.out ao dl zc dc Hms.out Hds.out w w2 Hz.out Hbd.out hl B P k5 S2 r Hr.out hT
 by_cases k6:d.kind=6
 ·exact may_q6 rfl HV.out ao dl zc dc Hms.out Hds.out w w2 Hz.out Hbd.out hl B P k6 S2 r Hr.out hT
 by_cases k7:d.kind=7
 ·exact may_q7 rfl HV.out ao dl zc dc Hms.out Hds.out w w2 Hz.out Hbd.out hl B P k7 S2 r Hr.out hT
 by_cases k8:d.kind=8
 ·exact may_q8 rfl HV.out ao dl zc dc Hms.out Hds.out w w2 Hz.out Hbd.out hl B P k8 S2 r Hr.out hT
 by_cases k9:d.kind=9
 ·exact may_q9 rfl HV.out ao dl zc dc Hms.out Hds.out w w2 Hz.out Hbd.out hl B P k9 S2 r Hr.out hT
 by_cases k10:d.kind=10
 ·exact may_q10 rfl HV.out ao dl zc dc Hms.out Hds.out w w2 Hz.out Hbd.out hl B P k10 S2 r Hr.out hT
 exact may_q0 rfl HV.out ao dl zc dc Hms.out Hds.out w w2 Hz.out Hbd.out hl B P ⟨k1,k2,k3,k4,k5,k6,k7,k8,k9,k10⟩ S2 r Hr.out hT
end Go.Proofs.YtogamdaomdoapaaGreat
namespace Go.Proofs.YtogamdaomdoapaaGreat.F
set_option maxRecDepth 20000
open Go.RowKit
theorem four_at (b off cap:Nat) (l:List UInt8) (w:World) (hb:b<w.heap.size) (hr:BRow w b off l) (m n:Nat) (hn:n=l.length - m) (hm:m+4≤l.length) :
 Calls Tryz.prog 131 #[.slice (some ⟨b,off+m,none⟩) n cap] w fun e w'=>e=.returned (.int .u32 (unFour (l.drop m):Nat))∧∃ n,w'=w.drewN n:=by
 have hat:BAt w (some ⟨b,off+m,none⟩) (l.drop m):=by
  have:=bat_cut hb hr m (l.length - m)
  rwa [List.take_of_length_le (by rw [List.length_drop];omega)] at this
 have:=qsatrapyref1.FromFour_any (some ⟨b,off+m,none⟩) cap (l.drop m) w hat (by rw [List.length_drop];omega)
 rw [List.length_drop,←hn] at this
 exact this
end Go.Proofs.YtogamdaomdoapaaGreat.F
namespace Go.Proofs.YtogamdaomdoapaaGreat
set_option maxRecDepth 20000
open Go.RowKit
structure EightN (p:List UInt8) (k0 k1 k2 k3 k4 k5 k6 k7:Nat) (e1:List UInt8) (b1:Bool) (x1:List UInt8) (y1:Bool) (x2:List UInt8) (y2:Bool) (x3:List UInt8) (y3:Bool) (x4:List UInt8) (y4:Bool) (x5:List UInt8) (y5:Bool) (x6:List UInt8) (y6:Bool) (x7:List UInt8) (y7:Bool):Prop where
 q0:numT p false=(k0,x1,y1)
 q1:numT x1 y1=(k1,x2,y2)
 q2:numT x2 y2=(k2,x3,y3)
 q3:numT x3 y3=(k3,x4,y4)
 q4:numT x4 y4=(k4,x5,y5)
 q5:numT x5 y5=(k5,x6,y6)
 q6:numT x6 y6=(k6,x7,y7)
 q7:numT x7 y7=(k7,e1,b1)
 l0:p.length≤p.length
 l1:x1.length≤p.length
 l2:x2.length≤p.length
 l3:x3.length≤p.length
 l4:x4.length≤p.length
 l5:x5.length≤p.length
 l6:x6.length≤p.length
 l7:x7.length≤p.length
end Go.Proofs.YtogamdaomdoapaaGreat
namespace Go.Proofs.YtogamdaomdoapaaGreat
open Go.RowKit
theorem wdec_all (ao:Option Addr) (cap:Nat) (l:List UInt8) (w:World) (h:F.Sl w ao cap l) (hm:l.length≤140737488351232) (hs:∀ p,F.oneB l=(p,0)→SmW p):Calls Tryz.prog 27 #[.slice ao l.length cap] w (DecWPost w l):=by
 obtain ⟨p,c,hp⟩:∃ p c,F.oneB l=(p,c):=⟨_,_,rfl⟩
 by_cases hc:c=0
 ·subst hc
  exact decode_ok ao cap l w h hm p hp (hs p hp)
 ·refine (decode_badN ao cap l w h hm c (by rw [hp]) hc).mono ?_
  rintro e w' ⟨rfl,hb⟩
  unfold DecWPost wdDec
  rw [hp,if_neg hc]
  exact ⟨none,0,none,0,rfl,hb,zs_nilR _,sl_nil _⟩
theorem dec_named {w:World} {l:List UInt8} {e:Ending} {w':World} (h:DecWPost w l e w'):∃ V mo zc dl dc,V=wdV (wdDec l).1 (.slice mo (wdDec l).1.mp.zs.length zc) (.slice dl (wdDec l).1.data.length dc)∧V.size=37∧V.all (·.oneCell')=true∧e=.returned (.tuple #[.agg V,.int .i64 (wdDec l).2])∧Below w.heap.size w w'∧O.ZsAt w' mo (wdDec l).1.mp.zs∧F.Sl w' dl dc (wdDec l).1.data:=by
 obtain ⟨mo,zc,dl,dc,rfl,hb,hz,hs⟩:=h
 exact ⟨_,mo,zc,dl,dc,rfl,rfl,by simp [wdV,Value.oneCell'],rfl,hb,hz,hs⟩
end Go.Proofs.YtogamdaomdoapaaGreat
namespace Go.Proofs.YtogamdaomdoapaaGreat.G
open Go.RowKit
abbrev An:=Rq × Rp
def anV (a:An):List Value:=[.int .i64 a.1.kind,.int .i64 a.1.client,.int .i64 a.1.seq,.string a.1.key,.string a.1.who,.string a.1.tkey,.string a.1.twho,.int .i64 a.1.item,.int .i64 a.1.count,.int .i64 a.1.price,.bool a.1.buy,.int .i64 a.1.id,.int .i64 a.2.err,.int .i64 a.2.id,.int .i64 a.2.i.a,.int .i64 a.2.i.b,.int .i64 a.2.i.c,.int .i64 a.2.i.d]
def anR (l:List An):List Value:=l.flatMap anV
theorem anR_app (l m:List An):anR (l++m)=anR l++anR m:=List.flatMap_append ..
theorem anR_one (a:An):anR [a]=anV a:=by unfold anR;simp
theorem anR_len (l:List An):(anR l).length=l.length * 18:=by
 induction l with
 | nil=>rfl
 | cons a l ih=>rw [show anR (a::l)=anV a++anR l from List.flatMap_cons ..,List.length_append,ih,List.length_cons];show 18+_=_;omega
def forB (g:Gt) (f t:Int):Bool:=g.pend&&decide (t=g.id)&&isHostB g.hosts f
def matchB (g:Gt) (D:Wd × Int):Bool:=decide (D.2=0)&&decide (D.1.kind=6)&&decide (D.1.op.kind=g.op.kind)&&decide (D.1.op.client=g.op.client)&&decide (D.1.op.seq=g.op.seq)
def heardB (g:Gt) (f t:Int) (D:Wd × Int):Bool:=forB g f t&&matchB g D
def movesB (g:Gt) (D:Wd × Int):Bool:=decide (D.1.err=15)&&isHostB g.hosts D.1.host
def hearG (g:Gt) (f t:Int) (D:Wd × Int):Gt:=if heardB g f t D=true then (if D.1.err=0 then { g with pend:=false,op:=rq0 } else if movesB g D=true then { g with host:=D.1.host,wait:=4 } else g) else g
def hearA (g:Gt) (f t:Int) (D:Wd × Int):List An:=if heardB g f t D=true∧D.1.err=0 then [(g.op,D.1.rep)] else []
def hearM (g:Gt) (f t:Int) (D:Wd × Int):Bool:=heardB g f t D&&(!decide (D.1.err=0)&&movesB g D)
theorem hear_no {g:Gt} {f t:Int} {D:Wd × Int} (h:heardB g f t D=false):hearG g f t D=g∧hearA g f t D=[]∧hearM g f t D=false:=by
 unfold hearG hearA hearM
 rw [h]
 refine ⟨if_neg (by simp),if_neg (by simp),rfl⟩
theorem hear_yes {g:Gt} {f t:Int} {D:Wd × Int} (h:heardB g f t D=true) (h0:D.1.err=0):hearG g f t D={ g with pend:=false,op:=rq0 }∧hearA g f t D=[(g.op,D.1.rep)]∧hearM g f t D=false:=by
 unfold hearG hearA hearM
 rw [h,decide_eq_true h0]
 refine ⟨by rw [if_pos rfl,if_pos h0],if_pos ⟨rfl,h0⟩,rfl⟩
theorem hear_moves {g:Gt} {f t:Int} {D:Wd × Int} (h:heardB g f t D=true) (h0:D.1.err≠0) (hm:movesB g D=true):hearG g f t D={ g with host:=D.1.host,wait:=4 }∧hearA g f t D=[]∧hearM g f t D=true:=by
 unfold hearG hearA hearM
 rw [h,hm,decide_eq_false h0]
 refine ⟨by rw [if_pos rfl,if_neg h0,if_pos rfl],if_neg (fun hh=>h0 hh.2),rfl⟩
theorem hear_stays {g:Gt} {f t:Int} {D:Wd × Int} (h:heardB g f t D=true) (h0:D.1.err≠0) (hm:movesB g D=false):hearG g f t D=g∧hearA g f t D=[]∧hearM g f t D=false:=by
 unfold hearG hearA hearM
 rw [h,hm,decide_eq_false h0]
 refine ⟨by rw [if_pos rfl,if_neg h0,if_neg (by simp)],if_neg (fun hh=>h0 hh.2),rfl⟩
theorem isHostB_iff {h n:Int}:isHostB h n=true↔8≤n∧n<8+h:=by unfold isHostB;simp
theorem heard_pend {g:Gt} {f t:Int} {D:Wd × Int} (h:heardB g f t D=true):g.pend=true:=by
 unfold heardB forB at h
 simp only [Bool.and_eq_true] at h
 exact h.1.1.1
theorem hear_ok {g:Gt} (h:Ok g) (f t:Int) (D:Wd × Int):Ok (hearG g f t D):=by
 unfold hearG
 split
 ·split
  ·exact ⟨h.id,h.hosts,h.next,h.host,h.wait,fun h=>(nomatch h)⟩
  ·split
   ·next hm =>
    unfold movesB at hm
    rw [Bool.and_eq_true] at hm
    exact ⟨h.id,h.hosts,h.next,isHostB_iff.1 hm.2,⟨(by decide:(0:Int)≤4),(by decide:(4:Int)≤4)⟩,h.may⟩
   ·exact h
 ·exact h
end Go.Proofs.YtogamdaomdoapaaGreat.G