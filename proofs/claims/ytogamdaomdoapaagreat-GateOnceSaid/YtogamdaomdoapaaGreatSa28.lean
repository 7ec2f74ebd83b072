/- Texts put together: WK6, WMy, Sum, FrPlain. -/
import Derived.Test.YtogamdaomdoapaaGreatSa02
import Derived.Test.YtogamdaomdoapaaGreatSa03
import Derived.Test.YtogamdaomdoapaaGreatSa22
import Derived.Test.YtogamdaomdoapaaGreatSa23
import Derived.Test.YtogamdaomdoapaaGreatSa24
import Derived.Test.YtogamdaomdoapaaGreatSa25
import Derived.Test.YtogamdaomdoapaaGreatSa26
import Derived.Test.YtogamdaomdoapaaGreatSa27
import Derived.Laws.Bits64b
namespace Go.Proofs.YtogamdaomdoapaaGreat
set_option maxRecDepth 20000
open Go.RowKit
set_option maxHeartbeats 4000000 in
theorem may_k5 {c:Code} (hb:(Tryz.f69).body=some c) {d:Wd} {ms ds:Value} {V:Array Value} (hV:V=wdV d ms ds) (w wa:World) (B P n:Nat) (dB mB:Bool) (hk:d.kind=5)
 (H:Hid (St w wa [thObj P (.cells #[.int .i64 0,.int .i64 0,.int .i64 0,.int .i64 0,.int .i64 0,.int .i64 0,.int .i64 0,.string ⟨#[]⟩,.string ⟨#[]⟩,.int .i64 0,.int .i64 0,.int .i64 0,.string ⟨#[]⟩,.string ⟨#[]⟩,.string ⟨#[]⟩,.string ⟨#[]⟩,.int .i64 0,.int .i64 0,.int .i64 0,.bool false,.int .i64 0,.int .i64 0,.int .i64 0,.int .i64 0,.int .i64 0,.int .i64 0,.int .i64 0,.int .i64 0,.int .i64 0,.int .i64 0,.int .i64 0,.string ⟨#[]⟩] 173 (0,0)),thObj B (.cells V 85 (0,0))])) (r:Bool) (hr:r=(okW d&&eqPl d.pl (namedW d)&&(dB==hasD d.kind)&&(mB==hasM d.kind)&&decide (n≤131072)))
 {K2:Act→World→Prop} {Q:Exit→Act→World→Prop} (hT:TailOk K2 w V B P dB mB r d n) {j9 j10 j11 j12 j13 j14 j15 j16 j17 j18 j19 j20 j21 j22 j23 j24 j25 j26 j27 j28 j29:Value}:(fstC (sndC (sndC (sndC (sndC c))))).wp Tryz.prog (Exit.then K2 Q) { tmps:=#[.agg V,.pointer (some ⟨B,0,none⟩),.bool false,.bool dB,.bool mB,.pointer (some ⟨P,0,none⟩),.bool false,.bool false,.bool false,j9,j10,j11,j12,j13,j14,j15,j16,j17,j18,j19,j20,j21,j22,j23,j24,j25,j26,j27,j28,j29,undef,undef,undef,undef,undef,undef,undef,undef,undef,undef,undef,undef,undef,undef,undef,undef,undef,undef,undef,undef,undef,undef,undef,undef,undef,undef,undef,undef,undef,undef,undef,undef,undef,undef,undef,undef,undef,undef,undef,undef,undef,undef,undef,undef,undef,undef,undef,undef,undef,undef,undef,undef,undef,undef,undef,undef,undef,undef,undef,undef,undef,undef,undef,undef,undef,undef,undef,undef,undef,undef,undef,undef,undef,undef,undef,undef,undef,undef,undef,undef,undef,undef,undef,undef,undef,undef,undef,undef,undef,undef,undef,undef,undef,undef,undef,undef,undef,undef,undef,undef,undef,undef,undef,undef,undef,undef,undef,undef,undef,undef,undef,undef,undef,undef,undef,undef,undef,undef,undef,undef,undef,undef,undef,undef,undef,undef,undef,undef,undef,undef,undef,undef,undef,undef,undef,undef,undef,undef,undef,undef,undef],defers:=[] } wa:=by
 have hs:V.size=37:=by rw [hV];rfl
 have HV:=Lib.hid hV
 clear hV
 have e1:okW d=(mayO d.op):=by simp [okW,hk]
 have e2:namedW d={ pl0 with op:=d.op }:=by simp [namedW,hk]
 have e3:hasD d.kind=false:=by simp [hasD,hk]
 have e4:hasM d.kind=false:=by simp [hasM,hk]
 rw [e1,e2,e3,e4] at hr
 clear e1 e2 e3 e4
 cases hb
 simp only [sndC,fstC]
 have S:=H
 clear H
 obtain ⟨c0,c1,c2,c3,c4,c5,c6,c7,c8,c9,c10,c11,c12,c13,c14,c15,c16,c17,c18,c19,c20,c21,c22,c23,c24,c25,c26,c27,c28,c29,c30,c31,c32,c33,c34,c35,c36⟩:=wbox (show wa.heap[B]?=some (.cells (wdV d ms ds) 85 (0,0)) from (by rw [←HV.out];exact (S.out.pull (A:=[_])).head))
 rw [hk] at c0
 clear c1 c2 c3 c4 c5 c6 c7 c8 c9 c10 c11 c12 c13 c14 c15 c16 c17 c18 c19 c20 c21 c22 c23 c24 c25 c26 c27 c28 c29 c30 c31 c32 c33 c34 c35 c36
 refine wp_hold fun C HC=>?_
 go_wp2_with fail
 (have hC:=HC.out);clear HC;subst hC
 clear c0
 refine wp_block ?_
 iterate 4 ((refine wp_hold fun C HC=>?_);(go_wp2_with fail);(have hC:=HC.out);clear HC;subst hC;(refine wp_cond_false rfl ?_))
 ((refine wp_hold fun C HC=>?_);(go_wp2_with fail);(have hC:=HC.out);clear HC;subst hC;(refine wp_cond_true rfl ?_))
 ((obtain ⟨wd,hwd⟩:∃ wd,wd=wa.drew:=⟨_,rfl⟩);(have S:=Lib.hid (S.out.grow (w':=wd) (by rw [hwd];exact (Below.refl _ _).drew)));(have HC:Hid (wd.heap[B]?=some (.cells V 85 (0,0))):=Lib.hid (S.out.pull (A:=[_])).head);(refine wp_region_noPanic ?_);(refine wp_region_held (S:=(fun W:World=>W.heap[B]?=some (.cells V 85 (0,0)))) (by kernel_rfl) ?_);change wpAnyH _ _ _ _ _ _ _ _ (World.drew _);(rw [←hwd]);clear hwd)
 (refine takeD (i:=0) (v:=.pointer (some ⟨B,10,none⟩)) 57 rfl rfl (by kernel_rfl) (by kernel_rfl) (by kernel_rfl) (fun _ _ _ h=>h) (Or.inl ⟨by rfl,fun w hSw=>(by obtain ⟨c0,c1,c2,c3,c4,c5,c6,c7,c8,c9,c10,c11,c12,c13,c14,c15,c16,c17,c18,c19,c20,c21,c22,c23,c24,c25,c26,c27,c28,c29,c30,c31,c32,c33,c34,c35,c36⟩:=wbox (show w.heap[B]?=some (.cells (wdV d ms ds) 85 (0,0)) from (by rw [←HV.out];exact hSw));go_simp)⟩) HC.out ?_;(try simp only [Act.put,List.setIfInBounds_toArray,List.set_cons_zero,List.set_cons_succ]))
 (refine takeD (i:=1) (v:=.agg #[.int .i64 d.op.kind,.int .i64 d.op.client,.int .i64 d.op.seq,.string d.op.key,.string d.op.who,.string d.op.tkey,.string d.op.twho,.int .i64 d.op.item,.int .i64 d.op.count,.int .i64 d.op.price,.bool d.op.buy,.int .i64 d.op.id]) 58 rfl rfl (by kernel_rfl) (by kernel_rfl) (by kernel_rfl) (fun _ _ _ h=>h) (Or.inl ⟨by rfl,fun w hSw=>(by obtain ⟨c0,c1,c2,c3,c4,c5,c6,c7,c8,c9,c10,c11,c12,c13,c14,c15,c16,c17,c18,c19,c20,c21,c22,c23,c24,c25,c26,c27,c28,c29,c30,c31,c32,c33,c34,c35,c36⟩:=wbox (show w.heap[B]?=some (.cells (wdV d ms ds) 85 (0,0)) from (by rw [←HV.out];exact hSw));go_simp)⟩) HC.out ?_;(try simp only [Act.put,List.setIfInBounds_toArray,List.set_cons_zero,List.set_cons_succ]))
 (refine takeD (i:=3) (v:=.pointer (some ⟨B,10,none⟩)) 60 rfl rfl (by kernel_rfl) (by kernel_rfl) (by kernel_rfl) (fun _ _ _ h=>h) (Or.inl ⟨by rfl,fun w hSw=>(by obtain ⟨c0,c1,c2,c3,c4,c5,c6,c7,c8,c9,c10,c11,c12,c13,c14,c15,c16,c17,c18,c19,c20,c21,c22,c23,c24,c25,c26,c27,c28,c29,c30,c31,c32,c33,c34,c35,c36⟩:=wbox (show w.heap[B]?=some (.cells (wdV d ms ds) 85 (0,0)) from (by rw [←HV.out];exact hSw));go_simp)⟩) HC.out ?_;(try simp only [Act.put,List.setIfInBounds_toArray,List.set_cons_zero,List.set_cons_succ]))
 (refine takeD (i:=4) (v:=.agg #[.int .i64 d.op.kind,.int .i64 d.op.client,.int .i64 d.op.seq,.string d.op.key,.string d.op.who,.string d.op.tkey,.string d.op.twho,.int .i64 d.op.item,.int .i64 d.op.count,.int .i64 d.op.price,.bool d.op.buy,.int .i64 d.op.id]) 61 rfl rfl (by kernel_rfl) (by kernel_rfl) (by kernel_rfl) (fun _ _ _ h=>h) (Or.inl ⟨by rfl,fun w hSw=>(by obtain ⟨c0,c1,c2,c3,c4,c5,c6,c7,c8,c9,c10,c11,c12,c13,c14,c15,c16,c17,c18,c19,c20,c21,c22,c23,c24,c25,c26,c27,c28,c29,c30,c31,c32,c33,c34,c35,c36⟩:=wbox (show w.heap[B]?=some (.cells (wdV d ms ds) 85 (0,0)) from (by rw [←HV.out];exact hSw));go_simp)⟩) HC.out ?_;(try simp only [Act.put,List.setIfInBounds_toArray,List.set_cons_zero,List.set_cons_succ]))
 ((refine wpAnyH_all (rs:=[2]) (by kernel_rfl) (by simp) (fun i' hi'=>?_);(obtain rfl:i'=2:=by simpa using hi');clear hi';(refine wpOp_step rfl (fun K' hK'=>?_)));go_simp;(refine (may_any d.op wd _ rfl).mono ?_);(rintro e w5 ⟨rfl,hb5⟩);(have S:=Lib.hid (S.out.grow hb5));(have HC:Hid (w5.heap[B]?=some (.cells V 85 (0,0))):=Lib.hid (S.out.pull (A:=[_])).head);(refine hK' _ _ ⟨HC.out,?_⟩);clear hK' K' hb5;(try simp only [Act.put,List.setIfInBounds_toArray,List.set_cons_zero,List.set_cons_succ]))
 (refine takeD (i:=5) (v:=.bool (mayO d.op)) 6 rfl rfl (by kernel_rfl) (by kernel_rfl) (by kernel_rfl) (fun _ _ _ h=>h) (Or.inl ⟨by rfl,fun w hSw=>(by obtain ⟨c0,c1,c2,c3,c4,c5,c6,c7,c8,c9,c10,c11,c12,c13,c14,c15,c16,c17,c18,c19,c20,c21,c22,c23,c24,c25,c26,c27,c28,c29,c30,c31,c32,c33,c34,c35,c36⟩:=wbox (show w.heap[B]?=some (.cells (wdV d ms ds) 85 (0,0)) from (by rw [←HV.out];exact hSw));go_simp)⟩) HC.out ?_;(try simp only [Act.put,List.setIfInBounds_toArray,List.set_cons_zero,List.set_cons_succ]))
 (refine takeD (i:=6) (v:=.pointer (some ⟨P,9,none⟩)) 62 rfl rfl (by kernel_rfl) (by kernel_rfl) (by kernel_rfl) (fun _ _ _ h=>h) (Or.inl ⟨by rfl,fun w hSw=>(by obtain ⟨c0,c1,c2,c3,c4,c5,c6,c7,c8,c9,c10,c11,c12,c13,c14,c15,c16,c17,c18,c19,c20,c21,c22,c23,c24,c25,c26,c27,c28,c29,c30,c31,c32,c33,c34,c35,c36⟩:=wbox (show w.heap[B]?=some (.cells (wdV d ms ds) 85 (0,0)) from (by rw [←HV.out];exact hSw));go_simp)⟩) HC.out ?_;(try simp only [Act.put,List.setIfInBounds_toArray,List.set_cons_zero,List.set_cons_succ]))
 (refine wpAnyH_all (rs:=[7]) (by kernel_rfl) (by simp) (fun i' hi'=>?_);(obtain rfl:i'=7:=by simpa using hi');clear hi';(refine wpOp_step rfl (fun K' hK'=>?_)))
 ((obtain ⟨p1,p2,p3⟩:=S.out.cellsN 0 rfl);go_simp;(refine hK' _ _ ⟨?_,anyH_name fun w5 hw5=>?_⟩);(exact (((((((((((((S.out.setObj 9 (.int .i64 d.op.kind)).setObj 10 (.int .i64 d.op.client)).setObj 11 (.int .i64 d.op.seq)).setObj 12 (.string d.op.key)).setObj 13 (.string d.op.who)).setObj 14 (.string d.op.tkey)).setObj 15 (.string d.op.twho)).setObj 16 (.int .i64 d.op.item)).setObj 17 (.int .i64 d.op.count)).setObj 18 (.int .i64 d.op.price)).setObj 19 (.bool d.op.buy)).setObj 20 (.int .i64 d.op.id)).pull (A:=[_])).head);(have S:=Lib.hid (((((((((((((S.out.setObj 9 (.int .i64 d.op.kind)).setObj 10 (.int .i64 d.op.client)).setObj 11 (.int .i64 d.op.seq)).setObj 12 (.string d.op.key)).setObj 13 (.string d.op.who)).setObj 14 (.string d.op.tkey)).setObj 15 (.string d.op.twho)).setObj 16 (.int .i64 d.op.item)).setObj 17 (.int .i64 d.op.count)).setObj 18 (.int .i64 d.op.price)).setObj 19 (.bool d.op.buy)).setObj 20 (.int .i64 d.op.id))));(rw [←hw5] at S);(simp only [List.setIfInBounds_toArray,List.set_cons_zero,List.set_cons_succ] at S);(have HC:Hid (w5.heap[B]?=some (.cells V 85 (0,0))):=Lib.hid (S.out.pull (A:=[_])).head);clear hw5 p1 p2 p3 hK' K';(try simp only [Act.put,List.setIfInBounds_toArray,List.set_cons_zero,List.set_cons_succ]))
 ((refine wpAnyH_done (by kernel_rfl) ?_ _);(refine NoPanic.normal ?_);(go_wp2_with fail))
 exact hT _ ({ pl0 with op:=d.op }) (mayO d.op) false false _ _ _ _ _ _ _ _ _ _ _ _ _ _ _ _ _ _ _ _ _ _ _ _ _ _ _ _ _ _ _ _ _ _ _ _ _ _ _ _ _ _ _ _ _ _ _ _ _ _ _ _ _ _ _ _ _ _ _ _ _ _ _ _ _ _ _ _ _ _ _ _ _ _ _ _ _ _ _ _ _ _ _ _ _ _ _ _ _ _ _ _ _ _ _ _ _ _ _ _ _ _ _ _ _ _ _ _ _ _ _ _ _ _ _ _ _ _ _ _ _ _ _ _ _ _ _ _ _ _ _ _ _ _ _ _ _ _ _ S.out hr
end Go.Proofs.YtogamdaomdoapaaGreat
namespace Go.Proofs.YtogamdaomdoapaaGreat
set_option maxRecDepth 20000
open Go.RowKit
theorem mayW_is {d:Wd} {dB mB:Bool} {n:Nat} (hd:dB=decide (d.data≠[])) (hm:mB=mapsB d.mp) (hn:n=d.data.length):mayW d=(okW d&&eqPl d.pl (namedW d)&&(dB==hasD d.kind)&&(mB==hasM d.kind)&&decide (n≤131072)):=by
 rw [hd,hm,hn];rfl
set_option maxHeartbeats 4000000 in
theorem wmay_any {d:Wd} {ms ds:Value} {V:Array Value} (hV:V=wdV d ms ds) (ao dl:Option Addr) (zc dc:Nat) (hms:ms=.slice ao d.mp.zs.length zc) (hds:ds=.slice dl d.data.length dc) (w:World) (hz:O.ZsAt w ao d.mp.zs) (hl:O.MzB d.mp) (hd:d.data.length≤9223372036854775807):Calls Tryz.prog 69 #[.agg V] w fun e w'=>e=.returned (.bool (mayW d))∧Below w.heap.size w w':=by
 have HV:=Lib.hid hV
 have HZ:=Lib.hid hz
 have HL:=Lib.hid hl
 obtain ⟨r,hr⟩:∃ r,r=mayW d:=⟨_,rfl⟩
 rw [←hr]
 have Hr:=Lib.hid hr
 obtain ⟨n,hn⟩:∃ n,n=d.data.length:=⟨_,rfl⟩
 have Hds:=Lib.hid hds
 have Hms:=Lib.hid hms
 have Hn:=Lib.hid hn
 have hn2:n≤9223372036854775807:=by rw [hn];exact hd
 clear hV hz hl hr hn
 go_enter Tryz.func69,Tryz.ntmps69
 refine wp_hold fun C HC=>?_
 go_wp2_with fail
 refine wp_name fun wa hwa=>?_
 obtain ⟨B,hB⟩:∃ B,B=w.heap.size:=⟨_,rfl⟩
 have S:Hid (St w wa [thObj B (.cells V 85 (0,0))]):=by rw [hwa];exact Lib.hid ((St.start w).objN _ B hB)
 rw [←hB]
 clear hwa hB
 (have hC:=HC.out);clear HC;subst hC
 refine wp_seq_k fun K1 hK1=>?_
 have mid:∀ (w1:World) (j9 j10 j11 j12 j13 j14 j15 j16 j17 j18 j19 j20 j21 j22 j23 j24 j25 j26 j27 j28 j29:Value) (dB mB:Bool),Hid (St w w1 [thObj B (.cells V 85 (0,0))])→dB=decide (d.data≠[])→mB=mapsB d.mp→K1 { tmps:=#[.agg V,.pointer (some ⟨B,0,none⟩),.bool false,.bool dB,.bool mB,undef,undef,undef,undef,j9,j10,j11,j12,j13,j14,j15,j16,j17,j18,j19,j20,j21,j22,j23,j24,j25,j26,j27,j28,j29,undef,undef,undef,undef,undef,undef,undef,undef,undef,undef,undef,undef,undef,undef,undef,undef,undef,undef,undef,undef,undef,undef,undef,undef,undef,undef,undef,undef,undef,undef,undef,undef,undef,undef,undef,undef,undef,undef,undef,undef,undef,undef,undef,undef,undef,undef,undef,undef,undef,undef,undef,undef,undef,undef,undef,undef,undef,undef,undef,undef,undef,undef,undef,undef,undef,undef,undef,undef,undef,undef,undef,undef,undef,undef,undef,undef,undef,undef,undef,undef,undef,undef,undef,undef,undef,undef,undef,undef,undef,undef,undef,undef,undef,undef,undef,undef,undef,undef,undef,undef,undef,undef,undef,undef,undef,undef,undef,undef,undef,undef,undef,undef,undef,undef,undef,undef,undef,undef,undef,undef,undef,undef,undef,undef,undef,undef,undef,undef,undef,undef,undef,undef,undef,undef,undef,undef,undef,undef,undef,undef,undef],defers:=[] } w1:=by
  intro w1 j9 j10 j11 j12 j13 j14 j15 j16 j17 j18 j19 j20 j21 j22 j23 j24 j25 j26 j27 j28 j29 dB mB S hdB hmB
  have hr:=Hr.out.trans (mayW_is hdB hmB Hn.out)
  clear hdB hmB
  refine hK1 _ _ ?_
  clear hK1
  refine wp_hold fun C HC=>?_
  go_wp2_with fail
  refine wp_name fun w2 hw2=>?_
  obtain ⟨P,hP⟩:∃ P,P=w1.heap.size:=⟨_,rfl⟩
  have S2:Hid (St w w2 [thObj P (.cells #[.int .i64 0,.int .i64 0,.int .i64 0,.int .i64 0,.int .i64 0,.int .i64 0,.int .i64 0,.string ⟨#[]⟩,.string ⟨#[]⟩,.int .i64 0,.int .i64 0,.int .i64 0,.string ⟨#[]⟩,.string ⟨#[]⟩,.string ⟨#[]⟩,.string ⟨#[]⟩,.int .i64 0,.int .i64 0,.int .i64 0,.bool false,.int .i64 0,.int .i64 0,.int .i64 0,.int .i64 0,.int .i64 0,.int .i64 0,.int .i64 0,.int .i64 0,.int .i64 0,.int .i64 0,.int .i64 0,.string ⟨#[]⟩] 173 (0,0)),thObj B (.cells V 85 (0,0))]):=by rw [hw2];exact Lib.hid (S.out.objN _ P hP)
  rw [←hP]
  clear hw2 hP S
  (have hC:=HC.out);clear HC;subst hC
  refine wp_hold fun C HC=>?_
  go_wp2_with fail
  (have hC:=HC.out);clear HC;subst hC
  refine wp_seq_k fun K2 hK2=>?_
  have hT:TailOk K2 w V B P dB mB r d n:=by
   intro w3 X ok hdB hmB j9 j10 j11 j12 j13 j14 j15 j16 j17 j18 j19 j20 j21 j22 j23 j24 j25 j26 j27 j28 j29 j30 j31 j32 j33 j34 j35 j36 j37 j38 j39 j40 j41 j42 j43 j44 j45 j46 j47 j48 j49 j50 j51 j52 j53 j54 j55 j56 j57 j58 j59 j60 j61 j62 j63 j64 j65 j66 j67 j68 j69 j70 j71 j72 j73 j74 j75 j76 j77 j78 j79 j80 j81 j82 j83 j84 j85 j86 j87 j88 j89 j90 j91 j92 j93 j94 j95 j96 j97 j98 j99 j100 j101 j102 j103 j104 j105 j106 j107 j108 j109 j110 j111 j112 j113 j114 j115 j116 j117 j118 j119 j120 j121 j122 j123 j124 j125 j126 j127 j128 j129 j130 j131 j132 j133 j134 j135 j136 j137 j138 j139 j140 j141 j142 j143 j144 j145 j146 j147 S3 hr3
   exact hK2 _ _ (may_tail rfl HV.out dl dc n (by rw [Hds.out,Hn.out]) hn2 w w3 B P X ok dB mB hdB hmB (Lib.hid S3) r hr3)
  clear hK2
  by_cases k1:d.kind=1
  ·exact may_k1 rfl HV.out w w2 B P n dB mB k1 S2 r hr hT
  by_cases k2:d.kind=2
  ·exact may_k2 rfl HV.out w w2 B P n dB mB k2 S2 r hr hT
  by_cases k3:d.kind=3
  ·exact may_k3 rfl HV.out ao zc Hms.out HL.out w w2 HZ.out B P n dB mB k3 S2 r hr hT
  by_cases k4:d.kind=4
  ·exact may_k4 rfl HV.out w w2 B P n dB mB k4 S2 r hr hT
  by_cases k5:d.kind=5
  ·exact may_k5 rfl HV.out w w2 B P n dB mB k5 S2 r hr hT
  by_cases k6:d.kind=6
  ·exact may_k6 rfl HV.out w w2 B P n dB mB k6 S2 r hr hT
  by_cases k7:d.kind=7
  ·exact may_k7 rfl HV.out dl dc Hds.out hd w w2 B P n dB mB k7 S2 r hr hT
  by_cases k8:d.kind=8
  ·exact may_k8 rfl HV.out w w2 B P n dB mB k8 S2 r hr hT
  by_cases k9:d.kind=9
  ·exact may_k9 rfl HV.out w w2 B P n dB mB k9 S2 r hr hT
  by_cases k10:d.kind=10
  ·exact may_k10 rfl HV.out w w2 B P n dB mB k10 S2 r hr hT
  exact may_k0 rfl HV.out w w2 B P n dB mB ⟨k1,k2,k3,k4,k5,k6,k7,k8,k9,k10⟩ S2 r hr hT
 obtain ⟨c0,c1,c2,c3,c4,c5,c6,c7,c8,c9,c10,c11,c12,c13,c14,c15,c16,c17,c18,c19,c20,c21,c22,c23,c24,c25,c26,c27,c28,c29,c30,c31,c32,c33,c34,c35,c36⟩:=wbox (show wa.heap[B]?=some (.cells (wdV d ms ds) 85 (0,0)) from (by rw [←HV.out];exact S.out.head))
 have sB:=(S.out.cellsN 0 rfl).1
 subst hms hds
 rw [←Hn.out] at c36
 have hdB:decide ((0:Nat)<d.data.length)=decide (d.data≠[]):=by
  congr 1
  simp only [eq_iff_iff,ne_eq,←List.length_eq_zero_iff]
  omega
 clear hK1 c0 c1 c2 c3 c4 c5 c6 c7 c8 c9 c10 c11 c12 c13 c14 c15 c16 c17 c18 c19 c20 c21 c22 c23 c24 c25 c26 c27 c31 c32 c33 c34 c35
 by_cases q1:d.mp.ver=0
 case neg =>
  have t1:(d.mp.ver != 0)=true:=by rw [bne_iff_ne];exact q1
  ((refine wp_region_gr (by kernel_rfl) (by kernel_rfl) ?_;(repeat (go_big_quiet_step (fail)));refine wpQuiet_nil ?_;intro _ hw';obtain ⟨g,hw''⟩:=hw';subst hw'');(go_wp2_with fail);exact mid _ _ _ _ _ _ _ _ _ _ _ _ _ _ _ _ _ _ _ _ _ _ _ _ (Lib.hid (S.out.grow (gr_below wa g))) (by rw [Hn.out];exact hdB) (by unfold mapsB;rw [decide_eq_true (.inl q1)]))
 have t1:(d.mp.ver != 0)=false:=by rw [q1];rfl
 by_cases q2:d.mp.next=0
 case neg =>
  have t2:(d.mp.next != 0)=true:=by rw [bne_iff_ne];exact q2
  ((refine wp_region_gr (by kernel_rfl) (by kernel_rfl) ?_;(repeat (go_big_quiet_step (fail)));refine wpQuiet_nil ?_;intro _ hw';obtain ⟨g,hw''⟩:=hw';subst hw'');(go_wp2_with fail);exact mid _ _ _ _ _ _ _ _ _ _ _ _ _ _ _ _ _ _ _ _ _ _ _ _ (Lib.hid (S.out.grow (gr_below wa g))) (by rw [Hn.out];exact hdB) (by unfold mapsB;rw [decide_eq_true (.inr (.inl q2))]))
 have t2:(d.mp.next != 0)=false:=by rw [q2];rfl
 ((refine wp_region_gr (by kernel_rfl) (by kernel_rfl) ?_;(repeat (go_big_quiet_step (fail)));refine wpQuiet_nil ?_;intro _ hw';obtain ⟨g,hw''⟩:=hw';subst hw'');(go_wp2_with fail);exact mid _ _ _ _ _ _ _ _ _ _ _ _ _ _ _ _ _ _ _ _ _ _ _ _ (Lib.hid (S.out.grow (gr_below wa g))) (by rw [Hn.out];exact hdB) (by unfold mapsB;congr 1;simp only [eq_iff_iff,ne_eq,←List.length_eq_zero_iff];omega))
end Go.Proofs.YtogamdaomdoapaaGreat
namespace Go.Proofs.YtogamdaomdoapaaGreat
open Go.RowKit
def crc1 (v:Nat):Nat:=(v / 2) ^^^ (if v % 2=1 then 3988292384 else 0)
def crcN:Nat→Nat→Nat
 | 0,v=>v
 | n+1,v=>crc1 (crcN n v)
def crcB (v:Nat) (c:UInt8):Nat:=crcN 8 (v ^^^ c.toNat)
def crcOf (v:Nat) (l:List UInt8):Nat:=l.foldl crcB v
def sumOf (l:List UInt8):Nat:=4294967295 ^^^ crcOf 4294967295 l
theorem wrap_u32 (n:Int):IntKind.u32.wrap n=n % 4294967296:=by simp [IntKind.wrap,IntKind.bits,IntKind.signed]
theorem bits_xor_u32 (a b:Nat) (ha:a<4294967296) (hb:b<4294967296):bits .xor .u32 (a:Int) (b:Int)=((a ^^^ b:Nat):Int):=by
 have hx:a ^^^ b<2 ^ 32:=Nat.xor_lt_two_pow (by omega) (by omega)
 have h1:(BitVec.ofInt 32 (a:Int)).toNat=a:=by
  rw [BitVec.ofInt_natCast,BitVec.toNat_ofNat];exact Nat.mod_eq_of_lt (by omega)
 have h2:(BitVec.ofInt 32 (b:Int)).toNat=b:=by
  rw [BitVec.ofInt_natCast,BitVec.toNat_ofNat];exact Nat.mod_eq_of_lt (by omega)
 show IntKind.u32.wrap ((BitVec.ofInt 32 (a:Int) ^^^ BitVec.ofInt 32 (b:Int)).toNat:Int)=_
 rw [BitVec.toNat_xor,h1,h2,wrap_u32]
 omega
theorem bits_and_u32 (a b:Nat) (ha:a<4294967296) (hb:b<4294967296):bits .and .u32 (a:Int) (b:Int)=((a &&& b:Nat):Int) :=
 (bits_nat .u32 32 (by decide) (fun n h0 h1=>by rw [wrap_u32];omega) a b (by omega) (by omega)).1
theorem crc1_lt {x:Nat} (h:x<4294967296):crc1 x<4294967296:=by
 unfold crc1
 have:x / 2 ^^^ (if x % 2=1 then 3988292384 else 0)<2 ^ 32:=Nat.xor_lt_two_pow (by omega) (by split<;>omega)
 omega
theorem crcN_lt {x:Nat} (h:x<4294967296):∀ n,crcN n x<4294967296
 | 0=>h
 | n+1=>crc1_lt (crcN_lt h n)
theorem xor_lt {u:Nat} (h:u<4294967296) (c:UInt8):u ^^^ c.toNat<4294967296:=by
 have:=c.toNat_lt
 have:u ^^^ c.toNat<2 ^ 32:=Nat.xor_lt_two_pow (by omega) (by omega)
 omega
theorem crcB_lt {u:Nat} (h:u<4294967296) (c:UInt8):crcB u c<4294967296:=crcN_lt (xor_lt h c) 8
theorem crcOf_lt:∀ (l:List UInt8) {u:Nat},u<4294967296→crcOf u l<4294967296
 | [],_,h=>h
 | c::r,_,h=>crcOf_lt r (crcB_lt h c)
theorem bits_crc (x:Nat) (hx:x<4294967296):bits .xor .u32 ((x:Int) / 2) (bits .and .u32 3988292384 (-bits .and .u32 (x:Int) 1 % 4294967296))=(crc1 x:Int):=by
 have h1:bits .and .u32 (x:Int) 1=((x % 2:Nat):Int):=by
  rw [show (1:Int)=((1:Nat):Int) from rfl,bits_and_u32 x 1 hx (by omega),Nat.and_one_is_mod]
 have h2:((x:Int) / 2)=((x / 2:Nat):Int):=by omega
 rw [h1,h2]
 unfold crc1
 rcases Nat.mod_two_eq_zero_or_one x with h | h
 ·rw [h,show bits .and .u32 3988292384 (-((0:Nat):Int) % 4294967296)=((0:Nat):Int) from by decide,bits_xor_u32 _ _ (by omega) (by omega)]
  rfl
 ·rw [h,show bits .and .u32 3988292384 (-((1:Nat):Int) % 4294967296)=((3988292384:Nat):Int) from by decide,bits_xor_u32 _ _ (by omega) (by omega)]
  rfl
theorem crcOf_take {v j:Nat} {l:List UInt8} (h:j<l.length):crcOf v (l.take (j+1))=crcB (crcOf v (l.take j)) l[j]:=by
 rw [List.take_succ_eq_append_getElem h]
 simp only [crcOf,List.foldl_append,List.foldl_cons,List.foldl_nil]
theorem crcOf_append (v:Nat) (a b:List UInt8):crcOf v (a++b)=crcOf (crcOf v a) b:=by simp only [crcOf,List.foldl_append]
set_option maxHeartbeats 2000000 in
theorem sum_any (ao:Option Addr) (cap:Nat) (L:List RowR) (w:World) (D:Nat→Prop) (h:RsAt w D ao L) (hm:L.length≤9223372036854775807) :
 Calls Tryz.prog 122 #[.slice ao L.length cap] w fun e w'=>e=.returned (.int .u32 (sumOf (flatR L)))∧w'=w:=by
 have H:=Lib.hid h
 clear h
 go_enter Tryz.func122,Tryz.ntmps122
 go_wp2_with fail
 go_loopw [10,3] (fun s10 s3 wr=>wr=w∧∃ (k v:Nat),s10=.int .i64 k∧s3=.int .u32 v∧k≤L.length∧v<4294967296∧Hid (v=crcOf 4294967295 (flatR (L.take k)))) (fun s10 _ _=>L.length - (intOf s10).toNat)
 case atStart=>exact ⟨rfl,0,4294967295,rfl,rfl,by omega,by omega,rfl⟩
 case round =>
  obtain ⟨rfl,k,v,rfl,rfl,hk,hv,hst⟩:=hrel
  by_cases hlt:(k:Int)<L.length
  ·obtain ⟨b,off,rfl,hb,-,hr⟩:=H.out (by omega)
   obtain ⟨ro,rc,rb,hrr⟩:∃ ro rc rb,(⟨ro,rc,rb⟩:RowR)=L[k]'(by omega):=⟨_,_,_,rfl⟩
   have hra:=hr k (by omega)
   rw [←hrr] at hra
   have Hrr:=Lib.hid hrr
   have c0:=hra.c
   have hle:=hra.le
   have hcm:=hra.cm
   have hat:BIn _ D ro rb:=hra.at_
   have Hat:=Lib.hid hat
   clear hra hr hrr hat
   simp only at c0 hle hcm
   go_wp2_with fail
   go_loopw [16,3] (fun s16 s3 w2=>w2=wr∧∃ (j u:Nat),s16=.int .i64 j∧s3=.int .u32 u∧j≤rb.length∧u<4294967296∧Hid (u=crcOf v (rb.take j))) (fun s16 _ _=>rb.length - (intOf s16).toNat)
   case atStart=>exact ⟨rfl,0,v,rfl,rfl,by omega,hv,rfl⟩
   case round =>
    obtain ⟨rfl,j,u,rfl,rfl,hj,hu,hs2⟩:=hrel
    by_cases hlt2:(j:Int)<rb.length
    ·obtain ⟨g,go,hao,hg,-,hrow⟩:=Hat.out (by omega)
     subst hao
     have c1:=hrow j (by omega)
     obtain ⟨c,hc⟩:∃ c,c=rb[j]'(by omega):=⟨_,rfl⟩
     rw [←hc] at c1
     have Hc:=Lib.hid hc
     clear hc hrow
     have hc8:(c.toNat:Int)<256:=by have:=c.toNat_lt;omega
     go_wp2_with fail
     have hux:=xor_lt hu c
     have hbx:=bits_xor_u32 u c.toNat hu (by omega)
     go_loopw [24,3] (fun s24 s3 w3=>w3=wr∧∃ (i x:Nat),s24=.int .i64 i∧s3=.int .u32 x∧i≤8∧x<4294967296∧Hid (x=crcN i (u ^^^ c.toNat))) (fun s24 _ _=>8 - (intOf s24).toNat)
     case atStart=>exact ⟨rfl,0,u ^^^ c.toNat,rfl,by rw [hbx],by omega,hux,rfl⟩
     case round =>
      obtain ⟨rfl,i,x,rfl,rfl,hi,hx,hs3⟩:=hrel
      clear hbx
      by_cases hlt3:(i:Int)<8
      ·have hbc:=bits_crc x hx
       have hcl:=crc1_lt hx
       go_wp2_with fail
       go_roundw
       case rel=>exact ⟨trivial,i+1,crc1 x,by go_num,rfl,by omega,hcl,by unfold Hid crcN;rw [←hs3.out]⟩
       case measure=>simp [intOf];omega
      ·go_wp2_with fail
       go_roundw
       case rel=>exact ⟨trivial,j+1,x,by go_num,rfl,by omega,hx,by
        have h8:i=8:=by omega
        subst h8
        unfold Hid
        rw [hs3.out,crcOf_take (by omega),←hs2.out,Hc.out]
        rfl⟩
       case measure=>simp [intOf];omega
    ·go_wp2_with fail
     go_roundw
     case rel=>exact ⟨trivial,k+1,u,by go_num,rfl,by omega,hu,by
      unfold Hid
      rw [hs2.out,List.take_of_length_le (by omega),List.take_succ_eq_append_getElem (by omega)]
      unfold flatR
      rw [List.flatMap_append,crcOf_append]
      simp only [List.flatMap_cons,List.flatMap_nil,List.append_nil]
      rw [←Hrr.out]
      congr 1⟩
     case measure=>simp [intOf];omega
  ·go_wp2_with fail
   have hmx:bits .xor .u32 IntKind.u32.max (v:Int)=((4294967295 ^^^ v:Nat):Int):=by
    rw [show IntKind.u32.max=((4294967295:Nat):Int) from by decide,bits_xor_u32 _ _ (by omega) hv]
   go_ret
   refine ⟨?_,rfl⟩
   rw [hmx]
   have:=hst.out
   rw [List.take_of_length_le (by omega)] at this
   rw [this]
   rfl
set_option maxRecDepth 8000 in
set_option maxHeartbeats 2000000 in
theorem refSum_any (ao:Option Addr) (cap:Nat) (l:List UInt8) (w:World) (h:BAt w ao l) (hm:l.length≤9223372036854775807) :
 Calls Tryz.prog 90 #[.slice ao l.length cap] w fun e w'=>e=.returned (.int .u32 (sumOf l))∧w'=w:=by
 have H:=Lib.hid h
 clear h
 go_enter Tryz.func90,Tryz.ntmps90
 go_wp2_with fail
 go_loopw [4,3] (fun s4 s3 wr=>wr=w∧∃ (j u:Nat),s4=.int .i64 j∧s3=.int .u32 u∧j≤l.length∧u<4294967296∧Hid (u=crcOf 4294967295 (l.take j))) (fun s4 _ _=>l.length - (intOf s4).toNat)
 case atStart=>exact ⟨rfl,0,4294967295,rfl,rfl,by omega,by omega,rfl⟩
 case round =>
  obtain ⟨rfl,j,u,rfl,rfl,hj,hu,hs2⟩:=hrel
  by_cases hlt2:(j:Int)<l.length
  ·obtain ⟨g,go,hao,hg,hrow⟩:=H.out (by omega)
   subst hao
   have c1:=hrow j (by omega)
   obtain ⟨c,hc⟩:∃ c,c=l[j]'(by omega):=⟨_,rfl⟩
   rw [←hc] at c1
   have Hc:=Lib.hid hc
   clear hc hrow
   have hc8:(c.toNat:Int)<256:=by have:=c.toNat_lt;omega
   have hux:=xor_lt hu c
   have hbx:=bits_xor_u32 u c.toNat hu (by omega)
   go_wp2_with fail
   go_loopw [5,3] (fun s5 s3 w3=>w3=wr∧∃ (i x:Nat),s5=.int .i64 i∧s3=.int .u32 x∧i≤8∧x<4294967296∧Hid (x=crcN i (u ^^^ c.toNat))) (fun s5 _ _=>8 - (intOf s5).toNat)
   case atStart=>exact ⟨rfl,0,u ^^^ c.toNat,rfl,rfl,by omega,hux,rfl⟩
   case round =>
    obtain ⟨rfl,i,x,rfl,rfl,hi,hx,hs3⟩:=hrel
    clear hbx
    by_cases hlt3:(i:Int)<8
    ·have hb1:bits .and .u32 (x:Int) 1=((x % 2:Nat):Int):=by
      rw [show (1:Int)=((1:Nat):Int) from rfl,bits_and_u32 x 1 hx (by omega),Nat.and_one_is_mod]
     have hcl:=crc1_lt hx
     rcases Nat.mod_two_eq_zero_or_one x with h2 | h2
     ·have hb1:bits .and .u32 (x:Int) 1=0:=by rw [hb1,h2];rfl
      have hcr:crc1 x=x / 2:=by unfold crc1;rw [h2];simp
      have Hcr:=Lib.hid hcr
      clear hcr h2
      go_wp2_with fail
      go_roundw
      case rel=>exact ⟨trivial,i+1,x / 2,by go_num,by first | rfl | (congr 1;omega),by omega,by omega,by unfold Hid crcN;rw [←hs3.out,Hcr.out]⟩
      case measure=>simp [intOf];omega
     ·have hb1:bits .and .u32 (x:Int) 1=1:=by rw [hb1,h2];rfl
      have hcr:bits .xor .u32 ((x:Int) / 2) 3988292384=(crc1 x:Int):=by
       unfold crc1
       rw [h2,show ((x:Int) / 2)=((x / 2:Nat):Int) from by omega,show (3988292384:Int)=((3988292384:Nat):Int) from rfl,bits_xor_u32 _ _ (by omega) (by omega)]
       rfl
      clear h2
      go_wp2_with fail
      go_roundw
      case rel=>exact ⟨trivial,i+1,crc1 x,by go_num,rfl,by omega,hcl,by unfold Hid crcN;rw [←hs3.out]⟩
      case measure=>simp [intOf];omega
    ·go_wp2_with fail
     go_roundw
     case rel=>exact ⟨trivial,j+1,x,by go_num,rfl,by omega,hx,by
      have h8:i=8:=by omega
      subst h8
      unfold Hid
      rw [hs3.out,crcOf_take (by omega),←hs2.out,Hc.out]
      rfl⟩
     case measure=>simp [intOf];omega
  ·go_wp2_with fail
   have hmx:bits .xor .u32 IntKind.u32.max (u:Int)=((4294967295 ^^^ u:Nat):Int):=by
    rw [show IntKind.u32.max=((4294967295:Nat):Int) from by decide,bits_xor_u32 _ _ (by omega) hu]
   go_ret
   refine ⟨?_,rfl⟩
   rw [hmx]
   have:=hs2.out
   rw [List.take_of_length_le (by omega)] at this
   rw [this]
   rfl
end Go.Proofs.YtogamdaomdoapaaGreat
namespace Go.Proofs.YtogamdaomdoapaaGreat.F
def fourB (n:Nat):List UInt8:=[UInt8.ofNat n,UInt8.ofNat (n / 256),UInt8.ofNat (n / 65536),UInt8.ofNat (n / 16777216)]
def unFour:List UInt8→Nat
 | a::b::c::d::_=>a.toNat+b.toNat * 256+c.toNat * 65536+d.toNat * 16777216
 | _=>0
theorem fourB_length (n:Nat):(fourB n).length=4:=rfl
theorem unFour_lt (l:List UInt8):unFour l<4294967296:=by
 match l with
 | a::b::c::d::_=>have:=a.toNat_lt;have:=b.toNat_lt;have:=c.toNat_lt;have:=d.toNat_lt;simp only [unFour];omega
 | [] | [_] | [_,_] | [_,_,_]=>simp [unFour]
theorem unFour_four (n:Nat) (hn:n<4294967296) (r:List UInt8):unFour (fourB n++r)=n:=by
 simp only [fourB,List.cons_append,List.nil_append,unFour,UInt8.toNat_ofNat']
 omega
theorem four_unFour {l:List UInt8} (h:4≤l.length):fourB (unFour l)=l.take 4:=by
 match l,h with
 | a::b::c::d::r,_ =>
  have ha:=a.toNat_lt;have hb:=b.toNat_lt;have hc:=c.toNat_lt;have hd:=d.toNat_lt
  simp only [fourB,unFour,List.take_succ_cons,List.take_zero,List.cons.injEq,and_true]
  refine ⟨?_,?_,?_,?_⟩<;>(apply UInt8.toNat_inj.1;rw [UInt8.toNat_ofNat'];omega)
theorem sumOf_lt (l:List UInt8):sumOf l<4294967296:=by
 unfold sumOf
 exact Nat.xor_lt_two_pow (n:=32) (by omega) (by have:=crcOf_lt l (u:=4294967295) (by omega);omega)
def headB (n:Nat):List UInt8:=fourB n++fourB (sumOf (fourB n))
theorem headB_length (n:Nat):(headB n).length=8:=rfl
def frameB (p:List UInt8):List UInt8:=(headB p.length++p)++fourB (sumOf (headB p.length++p))
theorem frameB_length (p:List UInt8):(frameB p).length=p.length+12:=by
 simp only [frameB,List.length_append,headB_length,fourB_length];omega
def decB (l:List UInt8):List UInt8 × Nat × Nat :=
 if l.length<8 then ([],0,2) else if l.take 8≠headB (unFour l) then ([],0,4) else if 1048576<unFour l then ([],0,5)
 else if l.length<12+unFour l then ([],0,2) else if unFour (l.drop (8+unFour l))≠sumOf (l.take (8+unFour l)) then ([],0,4)
 else ((l.drop 8).take (unFour l),12+unFour l,0)
theorem dec_frame (p more:List UInt8) (hp:p.length≤1048576):decB (frameB p++more)=(p,p.length+12,0):=by
 have hu:unFour (frameB p++more)=p.length:=by
  simp only [frameB,headB,List.append_assoc]
  exact unFour_four _ (by omega) _
 have hl:(frameB p++more).length=p.length+12+more.length:=by rw [List.length_append,frameB_length]
 have hh:(frameB p++more).take 8=headB p.length:=by
  simp only [frameB,List.append_assoc]
  rw [List.take_append_of_le_length (by rw [headB_length];omega),List.take_of_length_le (by rw [headB_length];omega)]
 have hw:(frameB p++more).take (8+p.length)=headB p.length++p:=by
  unfold frameB
  rw [List.append_assoc,List.take_append_of_le_length (by rw [List.length_append,headB_length];omega),List.take_of_length_le (by rw [List.length_append,headB_length];omega)]
 have hd:(frameB p++more).drop (8+p.length)=fourB (sumOf (headB p.length++p))++more:=by
  unfold frameB
  rw [List.append_assoc]
  exact List.drop_left' (by rw [List.length_append,headB_length])
 have hb:((frameB p++more).drop 8).take p.length=p:=by
  have:(frameB p++more).drop 8=p++(fourB (sumOf (headB p.length++p))++more):=by
   simp only [frameB,List.append_assoc]
   exact List.drop_left' (headB_length _)
  rw [this]
  exact List.take_left' rfl
 unfold decB
 rw [hu,hl,hh,hw,hd,hb,unFour_four _ (sumOf_lt _)]
 rw [if_neg (by omega),if_neg (by simp),if_neg (by omega),if_neg (by omega),if_neg (by simp),Nat.add_comm 12]
end Go.Proofs.YtogamdaomdoapaaGreat.F