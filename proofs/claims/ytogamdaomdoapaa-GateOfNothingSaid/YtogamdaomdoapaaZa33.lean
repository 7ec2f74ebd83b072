/- Texts put together: WK6, WMy. -/
import Derived.Test.YtogamdaomdoapaaZa26
import Derived.Test.YtogamdaomdoapaaZa27
import Derived.Test.YtogamdaomdoapaaZa28
import Derived.Test.YtogamdaomdoapaaZa29
import Derived.Test.YtogamdaomdoapaaZa30
import Derived.Test.YtogamdaomdoapaaZa31
import Derived.Test.YtogamdaomdoapaaZa32
namespace Go.Proofs.Ytogamdaomdoapaa
set_option maxRecDepth 20000
open Go.RowKit
set_option maxHeartbeats 4000000 in
theorem may_k5 {c:Code} (hb:(Try.f34).body=some c) {d:Wd} {ms ds:Value} {V:Array Value} (hV:V=wdV d ms ds) (w wa:World) (B P n:Nat) (dB mB:Bool) (hk:d.kind=5)
 (H:Hid (St w wa [thObj P (.cells #[.int .i64 0,.int .i64 0,.int .i64 0,.int .i64 0,.int .i64 0,.int .i64 0,.int .i64 0,.string ⟨#[]⟩,.string ⟨#[]⟩,.int .i64 0,.int .i64 0,.int .i64 0,.string ⟨#[]⟩,.string ⟨#[]⟩,.string ⟨#[]⟩,.string ⟨#[]⟩,.int .i64 0,.int .i64 0,.int .i64 0,.bool false,.int .i64 0,.int .i64 0,.int .i64 0,.int .i64 0,.int .i64 0,.int .i64 0,.int .i64 0,.int .i64 0,.int .i64 0,.int .i64 0,.int .i64 0,.string ⟨#[]⟩] 108 (0,0)),thObj B (.cells V 64 (0,0))])) (r:Bool) (hr:r=(okW d&&eqPl d.pl (namedW d)&&(dB==hasD d.kind)&&(mB==hasM d.kind)&&decide (n≤131072)))
 {K2:Act→World→Prop} {Q:Exit→Act→World→Prop} (hT:TailOk K2 w V B P dB mB r d n) {j9 j10 j11 j12 j13 j14 j15 j16 j17 j18 j19 j20 j21 j22 j23 j24 j25 j26 j27 j28 j29:Value}:(fstC (sndC (sndC (sndC (sndC c))))).wp Try.prog (Exit.then K2 Q) { tmps:=#[.agg V,.pointer (some ⟨B,0,none⟩),.bool false,.bool dB,.bool mB,.pointer (some ⟨P,0,none⟩),.bool false,.bool false,.bool false,j9,j10,j11,j12,j13,j14,j15,j16,j17,j18,j19,j20,j21,j22,j23,j24,j25,j26,j27,j28,j29,undef,undef,undef,undef,undef,undef,undef,undef,undef,undef,undef,undef,undef,undef,undef,undef,undef,undef,undef,undef,undef,undef,undef,undef,undef,undef,undef,undef,undef,undef,undef,undef,undef,undef,undef,undef,undef,undef,undef,undef,undef,undef,undef,undef,undef,undef,undef,undef,undef,undef,undef,undef,undef,undef,undef,undef,undef,undef,undef,undef,undef,undef,undef,undef,undef,undef,undef,undef,undef,undef,undef,undef,undef,undef,undef,undef,undef,undef,undef,undef,undef,undef,undef,undef,undef,undef,undef,undef,undef,undef,undef,undef,undef,undef,undef,undef,undef,undef,undef,undef,undef,undef,undef,undef,undef,undef,undef,undef,undef,undef,undef,undef,undef,undef,undef,undef,undef,undef,undef,undef,undef,undef,undef,undef,undef,undef,undef,undef,undef,undef,undef,undef,undef,undef,undef,undef,undef,undef,undef,undef,undef],defers:=[] } wa:=by
 have hs:V.size=37:=by rw [hV];rfl
 have HV:=Lib.hid hV
 clear hV
 have e1:okW d=(mayO d.op):=by simp [okW,hk]
 have e2:namedW d={ pl0 with op:=d.op }:=by simp [namedW,hk]
 have e3:hasD d.kind=false:=by simp [hasD,hk]
 have e4:hasM d.kind=false:=by simp [hasM,hk]
 rw [e1,e2,e3,e4] at hr
 clear e1 e2 e3 e4
 cases hb
 simp only [sndC,fstC]
 have S:=H
 clear H
 obtain ⟨c0,c1,c2,c3,c4,c5,c6,c7,c8,c9,c10,c11,c12,c13,c14,c15,c16,c17,c18,c19,c20,c21,c22,c23,c24,c25,c26,c27,c28,c29,c30,c31,c32,c33,c34,c35,c36⟩:=wbox (show wa.heap[B]?=some (.cells (wdV d ms ds) 64 (0,0)) from (by rw [←HV.out];exact (S.out.pull (A:=[_])).head))
 rw [hk] at c0
 clear c1 c2 c3 c4 c5 c6 c7 c8 c9 c10 c11 c12 c13 c14 c15 c16 c17 c18 c19 c20 c21 c22 c23 c24 c25 c26 c27 c28 c29 c30 c31 c32 c33 c34 c35 c36
 refine wp_hold fun C HC=>?_
 go_wp2_with fail
 (have hC:=HC.out);clear HC;subst hC
 clear c0
 refine wp_block ?_
 iterate 4 ((refine wp_hold fun C HC=>?_);(go_wp2_with fail);(have hC:=HC.out);clear HC;subst hC;(refine wp_cond_false rfl ?_))
 ((refine wp_hold fun C HC=>?_);(go_wp2_with fail);(have hC:=HC.out);clear HC;subst hC;(refine wp_cond_true rfl ?_))
 ((obtain ⟨wd,hwd⟩:∃ wd,wd=wa.drew:=⟨_,rfl⟩);(have S:=Lib.hid (S.out.grow (w':=wd) (by rw [hwd];exact (Below.refl _ _).drew)));(have HC:Hid (wd.heap[B]?=some (.cells V 64 (0,0))):=Lib.hid (S.out.pull (A:=[_])).head);(refine wp_region_noPanic ?_);(refine wp_region_held (S:=(fun W:World=>W.heap[B]?=some (.cells V 64 (0,0)))) (by kernel_rfl) ?_);change wpAnyH _ _ _ _ _ _ _ _ (World.drew _);(rw [←hwd]);clear hwd)
 (refine takeD (i:=0) (v:=.pointer (some ⟨B,10,none⟩)) 57 rfl rfl (by kernel_rfl) (by kernel_rfl) (by kernel_rfl) (fun _ _ _ h=>h) (Or.inl ⟨by rfl,fun w hSw=>(by obtain ⟨c0,c1,c2,c3,c4,c5,c6,c7,c8,c9,c10,c11,c12,c13,c14,c15,c16,c17,c18,c19,c20,c21,c22,c23,c24,c25,c26,c27,c28,c29,c30,c31,c32,c33,c34,c35,c36⟩:=wbox (show w.heap[B]?=some (.cells (wdV d ms ds) 64 (0,0)) from (by rw [←HV.out];exact hSw));go_simp)⟩) HC.out ?_;(try simp only [Act.put,List.setIfInBounds_toArray,List.set_cons_zero,List.set_cons_succ]))
 (refine takeD (i:=1) (v:=.agg #[.int .i64 d.op.kind,.int .i64 d.op.client,.int .i64 d.op.seq,.string d.op.key,.string d.op.who,.string d.op.tkey,.string d.op.twho,.int .i64 d.op.item,.int .i64 d.op.count,.int .i64 d.op.price,.bool d.op.buy,.int .i64 d.op.id]) 58 rfl rfl (by kernel_rfl) (by kernel_rfl) (by kernel_rfl) (fun _ _ _ h=>h) (Or.inl ⟨by rfl,fun w hSw=>(by obtain ⟨c0,c1,c2,c3,c4,c5,c6,c7,c8,c9,c10,c11,c12,c13,c14,c15,c16,c17,c18,c19,c20,c21,c22,c23,c24,c25,c26,c27,c28,c29,c30,c31,c32,c33,c34,c35,c36⟩:=wbox (show w.heap[B]?=some (.cells (wdV d ms ds) 64 (0,0)) from (by rw [←HV.out];exact hSw));go_simp)⟩) HC.out ?_;(try simp only [Act.put,List.setIfInBounds_toArray,List.set_cons_zero,List.set_cons_succ]))
 (refine takeD (i:=3) (v:=.pointer (some ⟨B,10,none⟩)) 60 rfl rfl (by kernel_rfl) (by kernel_rfl) (by kernel_rfl) (fun _ _ _ h=>h) (Or.inl ⟨by rfl,fun w hSw=>(by obtain ⟨c0,c1,c2,c3,c4,c5,c6,c7,c8,c9,c10,c11,c12,c13,c14,c15,c16,c17,c18,c19,c20,c21,c22,c23,c24,c25,c26,c27,c28,c29,c30,c31,c32,c33,c34,c35,c36⟩:=wbox (show w.heap[B]?=some (.cells (wdV d ms ds) 64 (0,0)) from (by rw [←HV.out];exact hSw));go_simp)⟩) HC.out ?_;(try simp only [Act.put,List.setIfInBounds_toArray,List.set_cons_zero,List.set_cons_succ]))
 (refine takeD (i:=4) (v:=.agg #[.int .i64 d.op.kind,.int .i64 d.op.client,.int .i64 d.op.seq,.string d.op.key,.string d.op.who,.string d.op.tkey,.string d.op.twho,.int .i64 d.op.item,.int .i64 d.op.count,.int .i64 d.op.price,.bool d.op.buy,.int .i64 d.op.id]) 61 rfl rfl (by kernel_rfl) (by kernel_rfl) (by kernel_rfl) (fun _ _ _ h=>h) (Or.inl ⟨by rfl,fun w hSw=>(by obtain ⟨c0,c1,c2,c3,c4,c5,c6,c7,c8,c9,c10,c11,c12,c13,c14,c15,c16,c17,c18,c19,c20,c21,c22,c23,c24,c25,c26,c27,c28,c29,c30,c31,c32,c33,c34,c35,c36⟩:=wbox (show w.heap[B]?=some (.cells (wdV d ms ds) 64 (0,0)) from (by rw [←HV.out];exact hSw));go_simp)⟩) HC.out ?_;(try simp only [Act.put,List.setIfInBounds_toArray,List.set_cons_zero,List.set_cons_succ]))
 ((refine wpAnyH_all (rs:=[2]) (by kernel_rfl) (by simp) (fun i' hi'=>?_);(obtain rfl:i'=2:=by simpa using hi');clear hi';(refine wpOp_step rfl (fun K' hK'=>?_)));go_simp;(refine (may_any d.op wd _ rfl).mono ?_);(rintro e w5 ⟨rfl,hb5⟩);(have S:=Lib.hid (S.out.grow hb5));(have HC:Hid (w5.heap[B]?=some (.cells V 64 (0,0))):=Lib.hid (S.out.pull (A:=[_])).head);(refine hK' _ _ ⟨HC.out,?_⟩);clear hK' K' hb5;(try simp only [Act.put,List.setIfInBounds_toArray,List.set_cons_zero,List.set_cons_succ]))
 (refine takeD (i:=5) (v:=.bool (mayO d.op)) 6 rfl rfl (by kernel_rfl) (by kernel_rfl) (by kernel_rfl) (fun _ _ _ h=>h) (Or.inl ⟨by rfl,fun w hSw=>(by obtain ⟨c0,c1,c2,c3,c4,c5,c6,c7,c8,c9,c10,c11,c12,c13,c14,c15,c16,c17,c18,c19,c20,c21,c22,c23,c24,c25,c26,c27,c28,c29,c30,c31,c32,c33,c34,c35,c36⟩:=wbox (show w.heap[B]?=some (.cells (wdV d ms ds) 64 (0,0)) from (by rw [←HV.out];exact hSw));go_simp)⟩) HC.out ?_;(try simp only [Act.put,List.setIfInBounds_toArray,List.set_cons_zero,List.set_cons_succ]))
 (refine takeD (i:=6) (v:=.pointer (some ⟨P,9,none⟩)) 62 rfl rfl (by kernel_rfl) (by kernel_rfl) (by kernel_rfl) (fun _ _ _ h=>h) (Or.inl ⟨by rfl,fun w hSw=>(by obtain ⟨c0,c1,c2,c3,c4,c5,c6,c7,c8,c9,c10,c11,c12,c13,c14,c15,c16,c17,c18,c19,c20,c21,c22,c23,c24,c25,c26,c27,c28,c29,c30,c31,c32,c33,c34,c35,c36⟩:=wbox (show w.heap[B]?=some (.cells (wdV d ms ds) 64 (0,0)) from (by rw [←HV.out];exact hSw));go_simp)⟩) HC.out ?_;(try simp only [Act.put,List.setIfInBounds_toArray,List.set_cons_zero,List.set_cons_succ]))
 (refine wpAnyH_all (rs:=[7]) (by kernel_rfl) (by simp) (fun i' hi'=>?_);(obtain rfl:i'=7:=by simpa using hi');clear hi';(refine wpOp_step rfl (fun K' hK'=>?_)))
 ((obtain ⟨p1,p2,p3⟩:=S.out.cellsN 0 rfl);go_simp;(refine hK' _ _ ⟨?_,anyH_name fun w5 hw5=>?_⟩);(exact (((((((((((((S.out.setObj 9 (.int .i64 d.op.kind)).setObj 10 (.int .i64 d.op.client)).setObj 11 (.int .i64 d.op.seq)).setObj 12 (.string d.op.key)).setObj 13 (.string d.op.who)).setObj 14 (.string d.op.tkey)).setObj 15 (.string d.op.twho)).setObj 16 (.int .i64 d.op.item)).setObj 17 (.int .i64 d.op.count)).setObj 18 (.int .i64 d.op.price)).setObj 19 (.bool d.op.buy)).setObj 20 (.int .i64 d.op.id)).pull (A:=[_])).head);(have S:=Lib.hid (((((((((((((S.out.setObj 9 (.int .i64 d.op.kind)).setObj 10 (.int .i64 d.op.client)).setObj 11 (.int .i64 d.op.seq)).setObj 12 (.string d.op.key)).setObj 13 (.string d.op.who)).setObj 14 (.string d.op.tkey)).setObj 15 (.string d.op.twho)).setObj 16 (.int .i64 d.op.item)).setObj 17 (.int .i64 d.op.count)).setObj 18 (.int .i64 d.op.price)).setObj 19 (.bool d.op.buy)).setObj 20 (.int .i64 d.op.id))));(rw [←hw5] at S);(simp only [List.setIfInBounds_toArray,List.set_cons_zero,List.set_cons_succ] at S);(have HC:Hid (w5.heap[B]?=some (.cells V 64 (0,0))):=Lib.hid (S.out.pull (A:=[_])).head);clear hw5 p1 p2 p3 hK' K';(try simp only [Act.put,List.setIfInBounds_toArray,List.set_cons_zero,List.set_cons_succ]))
 ((refine wpAnyH_done (by kernel_rfl) ?_ _);(refine NoPanic.normal ?_);(go_wp2_with fail))
 exact hT _ ({ pl0 with op:=d.op }) (mayO d.op) false false _ _ _ _ _ _ _ _ _ _ _ _ _ _ _ _ _ _ _ _ _ _ _ _ _ _ _ _ _ _ _ _ _ _ _ _ _ _ _ _ _ _ _ _ _ _ _ _ _ _ _ _ _ _ _ _ _ _ _ _ _ _ _ _ _ _ _ _ _ _ _ _ _ _ _ _ _ _ _ _ _ _ _ _ _ _ _ _ _ _ _ _ _ _ _ _ _ _ _ _ _ _ _ _ _ _ _ _ _ _ _ _ _ _ _ _ _ _ _ _ _ _ _ _ _ _ _ _ _ _ _ _ _ _ _ _ _ _ _ S.out hr
end Go.Proofs.Ytogamdaomdoapaa
namespace Go.Proofs.Ytogamdaomdoapaa
set_option maxRecDepth 20000
open Go.RowKit
theorem mayW_is {d:Wd} {dB mB:Bool} {n:Nat} (hd:dB=decide (d.data≠[])) (hm:mB=mapsB d.mp) (hn:n=d.data.length):mayW d=(okW d&&eqPl d.pl (namedW d)&&(dB==hasD d.kind)&&(mB==hasM d.kind)&&decide (n≤131072)):=by
 rw [hd,hm,hn];rfl
set_option maxHeartbeats 4000000 in
theorem wmay_any {d:Wd} {ms ds:Value} {V:Array Value} (hV:V=wdV d ms ds) (ao dl:Option Addr) (zc dc:Nat) (hms:ms=.slice ao d.mp.zs.length zc) (hds:ds=.slice dl d.data.length dc) (w:World) (hz:O.ZsAt w ao d.mp.zs) (hl:O.MzB d.mp) (hd:d.data.length≤9223372036854775807):Calls Try.prog 34 #[.agg V] w fun e w'=>e=.returned (.bool (mayW d))∧Below w.heap.size w w':=by
 have HV:=Lib.hid hV
 have HZ:=Lib.hid hz
 have HL:=Lib.hid hl
 obtain ⟨r,hr⟩:∃ r,r=mayW d:=⟨_,rfl⟩
 rw [←hr]
 have Hr:=Lib.hid hr
 obtain ⟨n,hn⟩:∃ n,n=d.data.length:=⟨_,rfl⟩
 have Hds:=Lib.hid hds
 have Hms:=Lib.hid hms
 have Hn:=Lib.hid hn
 have hn2:n≤9223372036854775807:=by rw [hn];exact hd
 clear hV hz hl hr hn
 go_enter Try.func34,Try.ntmps34
 refine wp_hold fun C HC=>?_
 go_wp2_with fail
 refine wp_name fun wa hwa=>?_
 obtain ⟨B,hB⟩:∃ B,B=w.heap.size:=⟨_,rfl⟩
 have S:Hid (St w wa [thObj B (.cells V 64 (0,0))]):=by rw [hwa];exact Lib.hid ((St.start w).objN _ B hB)
 rw [←hB]
 clear hwa hB
 (have hC:=HC.out);clear HC;subst hC
 refine wp_seq_k fun K1 hK1=>?_
 have mid:∀ (w1:World) (j9 j10 j11 j12 j13 j14 j15 j16 j17 j18 j19 j20 j21 j22 j23 j24 j25 j26 j27 j28 j29:Value) (dB mB:Bool),Hid (St w w1 [thObj B (.cells V 64 (0,0))])→dB=decide (d.data≠[])→mB=mapsB d.mp→K1 { tmps:=#[.agg V,.pointer (some ⟨B,0,none⟩),.bool false,.bool dB,.bool mB,undef,undef,undef,undef,j9,j10,j11,j12,j13,j14,j15,j16,j17,j18,j19,j20,j21,j22,j23,j24,j25,j26,j27,j28,j29,undef,undef,undef,undef,undef,undef,undef,undef,undef,undef,undef,undef,undef,undef,undef,undef,undef,undef,undef,undef,undef,undef,undef,undef,undef,undef,undef,undef,undef,undef,undef,undef,undef,undef,undef,undef,undef,undef,undef,undef,undef,undef,undef,undef,undef,undef,undef,undef,undef,undef,undef,undef,undef,undef,undef,undef,undef,undef,undef,undef,undef,undef,undef,undef,undef,undef,undef,undef,undef,undef,undef,undef,undef,undef,undef,undef,undef,undef,undef,undef,undef,undef,undef,undef,undef,undef,undef,undef,undef,undef,undef,undef,undef,undef,undef,undef,undef,undef,undef,undef,undef,undef,undef,undef,undef,undef,undef,undef,undef,undef,undef,undef,undef,undef,undef,undef,undef,undef,undef,undef,undef,undef,undef,undef,undef,undef,undef,undef,undef,undef,undef,undef,undef,undef,undef,undef,undef,undef,undef,undef,undef],defers:=[] } w1:=by
  intro w1 j9 j10 j11 j12 j13 j14 j15 j16 j17 j18 j19 j20 j21 j22 j23 j24 j25 j26 j27 j28 j29 dB mB S hdB hmB
  have hr:=Hr.out.trans (mayW_is hdB hmB Hn.out)
  clear hdB hmB
  refine hK1 _ _ ?_
  clear hK1
  refine wp_hold fun C HC=>?_
  go_wp2_with fail
  refine wp_name fun w2 hw2=>?_
  obtain ⟨P,hP⟩:∃ P,P=w1.heap.size:=⟨_,rfl⟩
  have S2:Hid (St w w2 [thObj P (.cells #[.int .i64 0,.int .i64 0,.int .i64 0,.int .i64 0,.int .i64 0,.int .i64 0,.int .i64 0,.string ⟨#[]⟩,.string ⟨#[]⟩,.int .i64 0,.int .i64 0,.int .i64 0,.string ⟨#[]⟩,.string ⟨#[]⟩,.string ⟨#[]⟩,.string ⟨#[]⟩,.int .i64 0,.int .i64 0,.int .i64 0,.bool false,.int .i64 0,.int .i64 0,.int .i64 0,.int .i64 0,.int .i64 0,.int .i64 0,.int .i64 0,.int .i64 0,.int .i64 0,.int .i64 0,.int .i64 0,.string ⟨#[]⟩] 108 (0,0)),thObj B (.cells V 64 (0,0))]):=by rw [hw2];exact Lib.hid (S.out.objN _ P hP)
  rw [←hP]
  clear hw2 hP S
  (have hC:=HC.out);clear HC;subst hC
  refine wp_hold fun C HC=>?_
  go_wp2_with fail
  (have hC:=HC.out);clear HC;subst hC
  refine wp_seq_k fun K2 hK2=>?_
  have hT:TailOk K2 w V B P dB mB r d n:=by
   intro w3 X ok hdB hmB j9 j10 j11 j12 j13 j14 j15 j16 j17 j18 j19 j20 j21 j22 j23 j24 j25 j26 j27 j28 j29 j30 j31 j32 j33 j34 j35 j36 j37 j38 j39 j40 j41 j42 j43 j44 j45 j46 j47 j48 j49 j50 j51 j52 j53 j54 j55 j56 j57 j58 j59 j60 j61 j62 j63 j64 j65 j66 j67 j68 j69 j70 j71 j72 j73 j74 j75 j76 j77 j78 j79 j80 j81 j82 j83 j84 j85 j86 j87 j88 j89 j90 j91 j92 j93 j94 j95 j96 j97 j98 j99 j100 j101 j102 j103 j104 j105 j106 j107 j108 j109 j110 j111 j112 j113 j114 j115 j116 j117 j118 j119 j120 j121 j122 j123 j124 j125 j126 j127 j128 j129 j130 j131 j132 j133 j134 j135 j136 j137 j138 j139 j140 j141 j142 j143 j144 j145 j146 j147 S3 hr3
   exact hK2 _ _ (may_tail rfl HV.out dl dc n (by rw [Hds.out,Hn.out]) hn2 w w3 B P X ok dB mB hdB hmB (Lib.hid S3) r hr3)
  clear hK2
  by_cases k1:d.kind=1
  ·exact may_k1 rfl HV.out w w2 B P n dB mB k1 S2 r hr hT
  by_cases k2:d.kind=2
  ·exact may_k2 rfl HV.out w w2 B P n dB mB k2 S2 r hr hT
  by_cases k3:d.kind=3
  ·exact may_k3 rfl HV.out ao zc Hms.out HL.out w w2 HZ.out B P n dB mB k3 S2 r hr hT
  by_cases k4:d.kind=4
  ·exact may_k4 rfl HV.out w w2 B P n dB mB k4 S2 r hr hT
  by_cases k5:d.kind=5
  ·exact may_k5 rfl HV.out w w2 B P n dB mB k5 S2 r hr hT
  by_cases k6:d.kind=6
  ·exact may_k6 rfl HV.out w w2 B P n dB mB k6 S2 r hr hT
  by_cases k7:d.kind=7
  ·exact may_k7 rfl HV.out dl dc Hds.out hd w w2 B P n dB mB k7 S2 r hr hT
  by_cases k8:d.kind=8
  ·exact may_k8 rfl HV.out w w2 B P n dB mB k8 S2 r hr hT
  by_cases k9:d.kind=9
  ·exact may_k9 rfl HV.out w w2 B P n dB mB k9 S2 r hr hT
  by_cases k10:d.kind=10
  ·exact may_k10 rfl HV.out w w2 B P n dB mB k10 S2 r hr hT
  exact may_k0 rfl HV.out w w2 B P n dB mB ⟨k1,k2,k3,k4,k5,k6,k7,k8,k9,k10⟩ S2 r hr hT
 obtain ⟨c0,c1,c2,c3,c4,c5,c6,c7,c8,c9,c10,c11,c12,c13,c14,c15,c16,c17,c18,c19,c20,c21,c22,c23,c24,c25,c26,c27,c28,c29,c30,c31,c32,c33,c34,c35,c36⟩:=wbox (show wa.heap[B]?=some (.cells (wdV d ms ds) 64 (0,0)) from (by rw [←HV.out];exact S.out.head))
 have sB:=(S.out.cellsN 0 rfl).1
 subst hms hds
 rw [←Hn.out] at c36
 have hdB:decide ((0:Nat)<d.data.length)=decide (d.data≠[]):=by
  congr 1
  simp only [eq_iff_iff,ne_eq,←List.length_eq_zero_iff]
  omega
 clear hK1 c0 c1 c2 c3 c4 c5 c6 c7 c8 c9 c10 c11 c12 c13 c14 c15 c16 c17 c18 c19 c20 c21 c22 c23 c24 c25 c26 c27 c31 c32 c33 c34 c35
 by_cases q1:d.mp.ver=0
 case neg =>
  have t1:(d.mp.ver != 0)=true:=by rw [bne_iff_ne];exact q1
  ((refine wp_region_gr (by kernel_rfl) (by kernel_rfl) ?_;(repeat (go_big_quiet_step (fail)));refine wpQuiet_nil ?_;intro _ hw';obtain ⟨g,hw''⟩:=hw';subst hw'');(go_wp2_with fail);exact mid _ _ _ _ _ _ _ _ _ _ _ _ _ _ _ _ _ _ _ _ _ _ _ _ (Lib.hid (S.out.grow (gr_below wa g))) (by rw [Hn.out];exact hdB) (by unfold mapsB;rw [decide_eq_true (.inl q1)]))
 have t1:(d.mp.ver != 0)=false:=by rw [q1];rfl
 by_cases q2:d.mp.next=0
 case neg =>
  have t2:(d.mp.next != 0)=true:=by rw [bne_iff_ne];exact q2
  ((refine wp_region_gr (by kernel_rfl) (by kernel_rfl) ?_;(repeat (go_big_quiet_step (fail)));refine wpQuiet_nil ?_;intro _ hw';obtain ⟨g,hw''⟩:=hw';subst hw'');(go_wp2_with fail);exact mid _ _ _ _ _ _ _ _ _ _ _ _ _ _ _ _ _ _ _ _ _ _ _ _ (Lib.hid (S.out.grow (gr_below wa g))) (by rw [Hn.out];exact hdB) (by unfold mapsB;rw [decide_eq_true (.inr (.inl q2))]))
 have t2:(d.mp.next != 0)=false:=by rw [q2];rfl
 ((refine wp_region_gr (by kernel_rfl) (by kernel_rfl) ?_;(repeat (go_big_quiet_step (fail)));refine wpQuiet_nil ?_;intro _ hw';obtain ⟨g,hw''⟩:=hw';subst hw'');(go_wp2_with fail);exact mid _ _ _ _ _ _ _ _ _ _ _ _ _ _ _ _ _ _ _ _ _ _ _ _ (Lib.hid (S.out.grow (gr_below wa g))) (by rw [Hn.out];exact hdB) (by unfold mapsB;congr 1;simp only [eq_iff_iff,ne_eq,←List.length_eq_zero_iff];omega))
end Go.Proofs.Ytogamdaomdoapaa