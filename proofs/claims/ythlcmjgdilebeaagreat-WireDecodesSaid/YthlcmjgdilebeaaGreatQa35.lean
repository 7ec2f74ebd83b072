/- Texts put together: RepD. -/
import Derived.Test.YthlcmjgdilebeaaGreatQa06
import Derived.Test.YthlcmjgdilebeaaGreatQa18
namespace Go.Proofs.YthlcmjgdilebeaaGreat
open Go.RowKit
def RepDec (w:World) (l:List UInt8) (e:Ending) (w':World):Prop:=e=.returned (.tuple #[.agg #[.int .i64 (repR l).err,.int .i64 (repR l).id,.int .i64 (repR l).i.a,.int .i64 (repR l).i.b,.int .i64 (repR l).i.c,.int .i64 (repR l).i.d],.int .i64 (repE l)])∧Below w.heap.size w w'
structure RIs (l:List UInt8) (n0 n1 n2 n3 n4 n5:Nat) (rr:List UInt8) (rb:Bool):Prop where
 v0:rdVal l false 0=n0
 v1:rdVal l false 1=n1
 v2:rdVal l false 2=n2
 v3:rdVal l false 3=n3
 v4:rdVal l false 4=n4
 v5:rdVal l false 5=n5
 sr:(rdSt l false 6).1=rr
 sb:(rdSt l false 6).2=rb
 good:goodP l=((!rb&&rr.isEmpty)&&mayR ⟨n0,n1,⟨n2,n3,n4,n5⟩⟩)
 rp:rpOf l=⟨n0,n1,⟨n2,n3,n4,n5⟩⟩
 len:rr.length≤l.length
theorem rep_parts (l:List UInt8):∃ n0 n1 n2 n3 n4 n5 rr rb,RIs l n0 n1 n2 n3 n4 n5 rr rb:=⟨_,_,_,_,_,_,_,_,⟨rfl,rfl,rfl,rfl,rfl,rfl,rfl,rfl,rfl,rfl,rdSt_le _ _ _⟩⟩
theorem repR_no {l:List UInt8} (h:goodP l=false):repR l=zRp∧repE l=3:=by unfold repR repE;rw [h];exact ⟨rfl,rfl⟩
theorem repR_yes {l:List UInt8} (h:goodP l=true):repR l=rpOf l∧repE l=0:=by unfold repR repE;rw [h];exact ⟨rfl,rfl⟩
set_option maxRecDepth 40000 in
set_option maxHeartbeats 4000000 in
theorem decrep_any (ao:Option Addr) (cap:Nat) (l:List UInt8) (w:World) (h0:ao=none→l.length=0∧cap=0) (ha:BAt w ao l) (hm:l.length≤2000) :
 Calls Tryz.prog 87 #[.slice ao l.length cap] w (RepDec w l):=by
 have Ha:=Lib.hid ha
 have H0:=Lib.hid h0
 obtain ⟨n0,n1,n2,n3,n4,n5,rr,rb,HI⟩:=rep_parts l
 have HI:=Lib.hid HI
 clear ha h0
 go_enter Tryz.func87,Tryz.ntmps87
 go_wp2_with fail
 have S0:Hid (St w _ [thObj (w.heap.size+1+1) (.cells #[.int .i64 0] 3 (0,0)),thObj (w.heap.size+1) (.cells #[.int .i64 0,.int .i64 0,.int .i64 0,.int .i64 0,.int .i64 0,.int .i64 0] 32 (0,0)),thObj w.heap.size (.cells #[.int .i64 0,.int .i64 0,.int .i64 0,.int .i64 0,.int .i64 0,.int .i64 0] 32 (0,0))]):=(((St.start w).objN (.cells #[.int .i64 0,.int .i64 0,.int .i64 0,.int .i64 0,.int .i64 0,.int .i64 0] 32) w.heap.size rfl).objN (.cells #[.int .i64 0,.int .i64 0,.int .i64 0,.int .i64 0,.int .i64 0,.int .i64 0] 32) (w.heap.size+1) (by simp)).objN (.cells #[.int .i64 0] 3) (w.heap.size+1+1) (by simp)
 refine (newReader_any ao cap l _ H0.out (Ha.out.below S0.out.b) (by omega)).mono ?_
 rintro e w1 ⟨p,g,rfl,hr,hb,hp,hg⟩
 have S1:=Lib.hid (S0.out.newRd hr hb hp hg)
 clear S0 hr hb hp hg
 go_wp2_with fail
 refine (St.readNums (O:=[(w.heap.size+1+1,#[.int .i64 0],3),(w.heap.size+1,#[.int .i64 0,.int .i64 0,.int .i64 0,.int .i64 0,.int .i64 0,.int .i64 0],32),(w.heap.size,#[.int .i64 0,.int .i64 0,.int .i64 0,.int .i64 0,.int .i64 0,.int .i64 0],32)]) (L:=[]) S1.out (by omega) [(0,0),(1,1),(1,2),(1,3),(1,4),(1,5)] ?_ w1.heap.size 6 rfl rfl (by simp) _ _ rfl).mono ?_
 ·intro q hq
  simp only [List.mem_cons,List.not_mem_nil,or_false] at hq
  rcases hq with rfl | rfl | rfl | rfl | rfl | rfl<;>exact ⟨_,_,rfl,rfl⟩
 rintro e w2 ⟨rfl,hS⟩
 have S2:Hid (St w w2 [thRd p g rr rb,thObj (w.heap.size+1+1) (.cells #[.int .i64 (n0:Nat)] 3 (0,0)),thObj (w.heap.size+1) (.cells #[.int .i64 0,.int .i64 (n1:Nat),.int .i64 (n2:Nat),.int .i64 (n3:Nat),.int .i64 (n4:Nat),.int .i64 (n5:Nat)] 32 (0,0)),thObj w.heap.size (.cells #[.int .i64 0,.int .i64 0,.int .i64 0,.int .i64 0,.int .i64 0,.int .i64 0] 32 (0,0))]):=by
  rw [←HI.out.v0,←HI.out.v1,←HI.out.v2,←HI.out.v3,←HI.out.v4,←HI.out.v5,←HI.out.sr,←HI.out.sb]
  exact hS
 clear hS S1
 obtain ⟨hl1,hc1,hf1⟩:=S2.out.cellsN 1 rfl
 obtain ⟨hl2,hc2,hf2⟩:=S2.out.cellsN 2 rfl
 go_wp2_with fail
 obtain ⟨w3,hw3⟩:∃ w3,w3=w2.setCell ⟨w.heap.size+1,0,none⟩ (.int .i64 (n0:Nat)):=⟨_,rfl⟩
 have S3:Hid (St w w3 [thRd p g rr rb,thObj (w.heap.size+1) (.cells #[.int .i64 (n0:Nat),.int .i64 (n1:Nat),.int .i64 (n2:Nat),.int .i64 (n3:Nat),.int .i64 (n4:Nat),.int .i64 (n5:Nat)] 32 (0,0)),thObj (w.heap.size+1+1) (.cells #[.int .i64 (n0:Nat)] 3 (0,0)),thObj w.heap.size (.cells #[.int .i64 0,.int .i64 0,.int .i64 0,.int .i64 0,.int .i64 0,.int .i64 0] 32 (0,0))]):=by
  rw [hw3];exact ((S2.out.pull (A:=[_,_])).setObj 0 (.int .i64 (n0:Nat))).pull (A:=[_])
 rw [←hw3]
 clear S2 hl1 hc1 hf1 hl2 hc2 hf2 hw3
 have hwh:=whole_any p g rr rb w3 S3.out.head (by have:=HI.out.len;omega)
 obtain ⟨hl0,hc0,hf0⟩:=S3.out.cellsN 3 rfl
 obtain ⟨hl1,hc1,hf1⟩:=S3.out.cellsN 1 rfl
 have hb3:=S3.out.b
 cases hz:(!rb&&rr.isEmpty) with
 | false =>
  have HGf:Hid (goodP l=false):=by rw [HI.out.good,hz];rfl
  rw [hz] at hwh
  have Hwh:=Lib.hid hwh
  clear hz hwh
  refine Hwh.out.mono ?_
  rintro e w4 ⟨rfl,rfl⟩
  (go_wp2_with fail);exact bodyPost_ret (v:=.tuple #[.agg #[.int .i64 0,.int .i64 0,.int .i64 0,.int .i64 0,.int .i64 0,.int .i64 0],.int .i64 3]) (by simp only [results,Tryz.results87];go_simp) rfl ⟨by rw [(repR_no HGf.out).1,(repR_no HGf.out).2];rfl,bg⟩
 | true =>
  have HGz:Hid (goodP l=mayR ⟨n0,n1,⟨n2,n3,n4,n5⟩⟩):=by rw [HI.out.good,hz,Bool.true_and];rfl
  rw [hz] at hwh
  have Hwh:=Lib.hid hwh
  clear hz hwh
  obtain ⟨z,hz⟩:∃ z,mayR ⟨n0,n1,⟨n2,n3,n4,n5⟩⟩=z:=⟨_,rfl⟩
  have hmy:=fun w=>qop.mayReply_any ⟨n0,n1,⟨n2,n3,n4,n5⟩⟩ w z hz
  simp only at hmy
  have Hmy:=Lib.hid hmy
  rw [hz] at HGz
  clear hmy hz
  refine Hwh.out.mono ?_
  rintro e w4 ⟨rfl,rfl⟩
  go_wp2_with fail
  refine (Hmy.out _).mono ?_
  rintro e w5 ⟨rfl,hb⟩
  have S4:=Lib.hid (S3.out.grow hb)
  clear hb hl0 hc0 hf0 hl1 hc1 hf1 hb3 S3
  obtain ⟨hl0,hc0,hf0⟩:=S4.out.cellsN 3 rfl
  obtain ⟨hl1,hc1,hf1⟩:=S4.out.cellsN 1 rfl
  have hb5:=S4.out.b
  cases z with
  | false =>
   have HGf:Hid (goodP l=false):=HGz
   (go_wp2_with fail);exact bodyPost_ret (v:=.tuple #[.agg #[.int .i64 0,.int .i64 0,.int .i64 0,.int .i64 0,.int .i64 0,.int .i64 0],.int .i64 3]) (by simp only [results,Tryz.results87];go_simp) rfl ⟨by rw [(repR_no HGf.out).1,(repR_no HGf.out).2];rfl,bg⟩
  | true =>
   have HGt:Hid (goodP l=true):=HGz
   (go_wp2_with fail);exact bodyPost_ret (v:=.tuple #[.agg #[.int .i64 (n0:Nat),.int .i64 (n1:Nat),.int .i64 (n2:Nat),.int .i64 (n3:Nat),.int .i64 (n4:Nat),.int .i64 (n5:Nat)],.int .i64 0]) (by simp only [results,Tryz.results87];go_simp) rfl ⟨by rw [(repR_yes HGt.out).1,(repR_yes HGt.out).2,HI.out.rp],bg⟩
theorem St.badO {W w:World} {L:List Th} {p g:Nat} {rest:List UInt8} {bad:Bool} (h:St W w (thRO W p g rest bad::L)) :
 Calls Tryz.prog 90 #[.pointer (some ⟨p,0,none⟩)] w fun e w'=>e=.returned (.tuple #[])∧St W w' (thRO W p g [] true::L):=by
 refine (rrbad_any p g rest bad w (RO.rr h.head h.b)).mono ?_
 rintro e w' ⟨rfl,hr,hk⟩
 exact ⟨rfl,h.stepRO hr hk (by simp)⟩
set_option maxRecDepth 40000 in
set_option maxHeartbeats 4000000 in
theorem read8_any {W w:World} {L:List Th} {p g:Nat} {rest:List UInt8} {bad:Bool} (h:St W w (thRO W p g rest bad::L)) (hm:rest.length≤2000) (m0 m1 m2 m3:Nat) (r1 r2 r3 r4:List UInt8) (b1 b2 b3 b4:Bool) (e0:numT rest bad=(m0,r1,b1)) (e1:numT r1 b1=(m1,r2,b2)) (e2:numT r2 b2=(m2,r3,b3)) (e3:numT r3 b3=(m3,r4,b4)) (z:Bool) (hz:isI ⟨m0,m1,m2,m3⟩=z) :
 Calls Tryz.prog 113 #[.pointer (some ⟨p,0,none⟩)] w fun e w'=>e=.returned (.agg #[.int .i64 (m0:Nat),.int .i64 (m1:Nat),.int .i64 (m2:Nat),.int .i64 (m3:Nat)])∧St W w' (thRO W p g (if z then r4 else []) (if z then b4 else true)::L):=by
 have H:=Lib.hid h
 have Hl:Hid (r1.length≤2000∧r2.length≤2000∧r3.length≤2000):=by
  have h1:=(numT_le rest bad).1;rw [e0] at h1
  have h2:=(numT_le r1 b1).1;rw [e1] at h2
  have h3:=(numT_le r2 b2).1;rw [e2] at h3
  simp only at h1 h2 h3
  exact ⟨by omega,by omega,by omega⟩
 have E0:=Lib.hid e0
 have E1:=Lib.hid e1
 have E2:=Lib.hid e2
 have E3:=Lib.hid e3
 have hq:=fun w=>satrapyref8_is ⟨m0,m1,m2,m3⟩ w
 rw [hz] at hq
 have Hq:=Lib.hid hq
 clear h e0 e1 e2 e3 hq hz
 go_enter Tryz.func113,Tryz.ntmps113
 go_wp2_with fail
 have S0:Hid (St W _ (thRO W p g rest bad::thObj (w.heap.size+1) (.cells #[.int .i64 0,.int .i64 0,.int .i64 0,.int .i64 0] 30 (0,0))::thObj w.heap.size (.cells #[.int .i64 0,.int .i64 0,.int .i64 0,.int .i64 0] 30 (0,0))::L)):=((H.out.objN (.cells #[.int .i64 0,.int .i64 0,.int .i64 0,.int .i64 0] 30) w.heap.size rfl).objN (.cells #[.int .i64 0,.int .i64 0,.int .i64 0,.int .i64 0] 30) (w.heap.size+1) (by simp)).pull (A:=[_,_])
 clear H
 refine wp_loop_rounds 5 ?_
 rw [rounds_succ]
 go_wp2_with fail
 (have hcall:=St.readNumO S0.out (by have h3:=Hl.out.1;have h4:=Hl.out.2.1;have h5:=Hl.out.2.2;omega);(rw [E0.out] at hcall);(refine hcall.mono ?_);clear hcall S0;(rintro e w1 ⟨rfl,hS⟩);(have T:=Lib.hid hS);(obtain ⟨hl1,hc1,hf1⟩:=T.out.cellsN 1 rfl);clear hS;(go_wp2_with fail);(have S1:=Lib.hid (((T.out.pull (A:=[_])).setObj 0 (.int .i64 (m0:Nat))).pull (A:=[_])));clear T hl1 hc1 hf1)
 rw [rounds_succ]
 go_wp2_with fail
 (have hcall:=St.readNumO S1.out (by have h3:=Hl.out.1;have h4:=Hl.out.2.1;have h5:=Hl.out.2.2;omega);(rw [E1.out] at hcall);(refine hcall.mono ?_);clear hcall S1;(rintro e w2 ⟨rfl,hS⟩);(have T:=Lib.hid hS);(obtain ⟨hl1,hc1,hf1⟩:=T.out.cellsN 1 rfl);clear hS;(go_wp2_with fail);(have S2:=Lib.hid (((T.out.pull (A:=[_])).setObj 1 (.int .i64 (m1:Nat))).pull (A:=[_])));clear T hl1 hc1 hf1)
 rw [rounds_succ]
 go_wp2_with fail
 (have hcall:=St.readNumO S2.out (by have h3:=Hl.out.1;have h4:=Hl.out.2.1;have h5:=Hl.out.2.2;omega);(rw [E2.out] at hcall);(refine hcall.mono ?_);clear hcall S2;(rintro e w3 ⟨rfl,hS⟩);(have T:=Lib.hid hS);(obtain ⟨hl1,hc1,hf1⟩:=T.out.cellsN 1 rfl);clear hS;(go_wp2_with fail);(have S3:=Lib.hid (((T.out.pull (A:=[_])).setObj 2 (.int .i64 (m2:Nat))).pull (A:=[_])));clear T hl1 hc1 hf1)
 rw [rounds_succ]
 go_wp2_with fail
 (have hcall:=St.readNumO S3.out (by have h3:=Hl.out.1;have h4:=Hl.out.2.1;have h5:=Hl.out.2.2;omega);(rw [E3.out] at hcall);(refine hcall.mono ?_);clear hcall S3;(rintro e w4 ⟨rfl,hS⟩);(have T:=Lib.hid hS);(obtain ⟨hl1,hc1,hf1⟩:=T.out.cellsN 1 rfl);clear hS;(go_wp2_with fail);(have S4:=Lib.hid (((T.out.pull (A:=[_])).setObj 3 (.int .i64 (m3:Nat))).pull (A:=[_])));clear T hl1 hc1 hf1)
 rw [rounds_succ]
 obtain ⟨w5,hw5⟩:∃ w5,w5=w4.setCell ⟨w.heap.size+1,3,none⟩ (.int .i64 (m3:Nat)):=⟨_,rfl⟩
 have S5:Hid (St W w5 (thRO W p g r4 b4::thObj (w.heap.size+1) (.cells #[.int .i64 (m0:Nat),.int .i64 (m1:Nat),.int .i64 (m2:Nat),.int .i64 (m3:Nat)] 30 (0,0))::thObj w.heap.size (.cells #[.int .i64 0,.int .i64 0,.int .i64 0,.int .i64 0] 30 (0,0))::L)):=by
  rw [hw5];exact S4.out
 rw [←hw5]
 clear S4 hw5
 obtain ⟨hl1,hc1,hf1⟩:=S5.out.cellsN 1 rfl
 go_wp2_with fail
 refine (Hq.out _).mono ?_
 rintro e w6 ⟨rfl,hb⟩
 have S6:=Lib.hid (S5.out.grow hb)
 clear hb S5 hl1 hc1 hf1
 cases z with
 | true =>
  obtain ⟨hl1,hc1,hf1⟩:=S6.out.cellsN 1 rfl
  obtain ⟨hl2,hc2,hf2⟩:=S6.out.cellsN 2 rfl
  go_wp2_with fail
  have S7:=Lib.hid ((((((S6.out.pull (A:=[_,_])).setObj 0 (.int .i64 (m0:Nat))).setObj 1 (.int .i64 (m1:Nat))).setObj 2 (.int .i64 (m2:Nat))).setObj 3 (.int .i64 (m3:Nat))).drop)
  exact bodyPost_ret (v:=.agg #[.int .i64 (m0:Nat),.int .i64 (m1:Nat),.int .i64 (m2:Nat),.int .i64 (m3:Nat)]) (by simp only [results,Tryz.results113];go_simp) rfl ⟨rfl,(S7.out.perm (List.Perm.swap _ _ _)).drop⟩
 | false =>
  go_wp2_with fail
  refine (St.badO S6.out).mono ?_
  rintro e w7 ⟨rfl,hS⟩
  have S7:=Lib.hid hS
  clear S6 hS
  obtain ⟨hl1,hc1,hf1⟩:=S7.out.cellsN 1 rfl
  obtain ⟨hl2,hc2,hf2⟩:=S7.out.cellsN 2 rfl
  go_wp2_with fail
  have S8:=Lib.hid ((((((S7.out.pull (A:=[_,_])).setObj 0 (.int .i64 (m0:Nat))).setObj 1 (.int .i64 (m1:Nat))).setObj 2 (.int .i64 (m2:Nat))).setObj 3 (.int .i64 (m3:Nat))).drop)
  exact bodyPost_ret (v:=.agg #[.int .i64 (m0:Nat),.int .i64 (m1:Nat),.int .i64 (m2:Nat),.int .i64 (m3:Nat)]) (by simp only [results,Tryz.results113];go_simp) rfl ⟨rfl,(S8.out.perm (List.Perm.swap _ _ _)).drop⟩
structure RIn (l:List UInt8) (n0 n1 n2 n3 n4 n5:Nat) (rr:List UInt8) (rb:Bool) (r1:List UInt8) (b1:Bool) (r2:List UInt8) (b2:Bool) (r3:List UInt8) (b3:Bool) (r4:List UInt8) (b4:Bool) (r5:List UInt8) (b5:Bool):Prop where
 na:numT l false=(n0,r1,b1)
 nb:numT r1 b1=(n1,r2,b2)
 nc:numT r2 b2=(n2,r3,b3)
 nd:numT r3 b3=(n3,r4,b4)
 ne:numT r4 b4=(n4,r5,b5)
 nf:numT r5 b5=(n5,rr,rb)
 la:r1.length≤l.length
 lb:r2.length≤l.length
theorem rep_nums {l:List UInt8} {n0 n1 n2 n3 n4 n5:Nat} {rr:List UInt8} {rb:Bool} (h:RIs l n0 n1 n2 n3 n4 n5 rr rb):∃ r1 b1 r2 b2 r3 b3 r4 b4 r5 b5,RIn l n0 n1 n2 n3 n4 n5 rr rb r1 b1 r2 b2 r3 b3 r4 b4 r5 b5:=by
 refine ⟨(rdSt l false 1).1,(rdSt l false 1).2,(rdSt l false 2).1,(rdSt l false 2).2,(rdSt l false 3).1,(rdSt l false 3).2,(rdSt l false 4).1,(rdSt l false 4).2,(rdSt l false 5).1,(rdSt l false 5).2,⟨?_,?_,?_,?_,?_,?_,rdSt_le _ _ _,rdSt_le _ _ _⟩⟩
 ·rw [←h.v0];exact rd_step l false 0 1 rfl
 ·rw [←h.v1];exact rd_step l false 1 2 rfl
 ·rw [←h.v2];exact rd_step l false 2 3 rfl
 ·rw [←h.v3];exact rd_step l false 3 4 rfl
 ·rw [←h.v4];exact rd_step l false 4 5 rfl
 ·rw [←h.v5,←h.sr,←h.sb];exact rd_step l false 5 6 rfl
set_option maxRecDepth 40000 in
set_option maxHeartbeats 4000000 in
theorem rdecrep_any (ao:Option Addr) (cap:Nat) (l:List UInt8) (w:World) (hlc:l.length≤cap) (hcm:cap≤9223372036854775807) (h0:ao=none→l.length=0∧cap=0) (ha:BAt w ao l) (hm:l.length≤2000) :
 Calls Tryz.prog 94 #[.slice ao l.length cap] w (RepDec w l):=by
 obtain ⟨n0,n1,n2,n3,n4,n5,rr,rb,HI⟩:=rep_parts l
 obtain ⟨r1,b1,r2,b2,r3,b3,r4,b4,r5,b5,HN⟩:=rep_nums HI
 have HI:=Lib.hid HI
 have HN:=Lib.hid HN
 have Hnew:=Lib.hid (((St.start w).objN (.cells #[.int .i64 0,.int .i64 0,.int .i64 0,.int .i64 0,.int .i64 0,.int .i64 0] 32) w.heap.size rfl).newRO (w.heap.size+1) (by simp) ao cap l hlc hcm h0 ha)
 clear hlc hcm h0 ha
 go_enter Tryz.func94,Tryz.ntmps94
 go_wp2_with fail
 obtain ⟨g,hS⟩:=Hnew.out
 have S0:=Lib.hid hS
 clear hS Hnew
 have hcall:=St.readNumO S0.out (by omega)
 rw [HN.out.na] at hcall
 refine hcall.mono ?_
 clear hcall S0
 rintro e w1 ⟨rfl,hS⟩
 have S1:=Lib.hid hS
 clear hS
 go_wp2_with fail
 have hcall:=St.readNumO S1.out (by have:=HN.out.la;omega)
 rw [HN.out.nb] at hcall
 refine hcall.mono ?_
 clear hcall S1
 rintro e w2 ⟨rfl,hS⟩
 have S2:=Lib.hid hS
 clear hS
 go_wp2_with fail
 have S3:Hid (St w _ [thRO w (w.heap.size+1) g r2 b2,thObj w2.heap.size (.cells #[.int .i64 (n0:Nat),.int .i64 (n1:Nat),.int .i64 0,.int .i64 0,.int .i64 0,.int .i64 0] 32 (0,0)),thObj w.heap.size (.cells #[.int .i64 0,.int .i64 0,.int .i64 0,.int .i64 0,.int .i64 0,.int .i64 0] 32 (0,0))]):=(S2.out.objN (.cells #[.int .i64 (n0:Nat),.int .i64 (n1:Nat),.int .i64 0,.int .i64 0,.int .i64 0,.int .i64 0] 32) w2.heap.size rfl).pull (A:=[_])
 clear S2
 obtain ⟨z,hz⟩:∃ z,isI ⟨n2,n3,n4,n5⟩=z:=⟨_,rfl⟩
 have Hz:=Lib.hid hz
 refine (read8_any S3.out (by have:=HN.out.lb;omega) n2 n3 n4 n5 r3 r4 r5 rr b3 b4 b5 rb HN.out.nc HN.out.nd HN.out.ne HN.out.nf z hz).mono ?_
 clear hz
 rintro e w3 ⟨rfl,hS⟩
 have S4:=Lib.hid hS
 obtain ⟨hl1,hc1,hf1⟩:=S4.out.cellsN 1 rfl
 clear hS S3
 go_wp2_with fail
 obtain ⟨w4,hw4⟩:∃ w4,w4=(((w3.setCell ⟨w2.heap.size,2,none⟩ (.int .i64 (n2:Nat))).setCell ⟨w2.heap.size,3,none⟩ (.int .i64 (n3:Nat))).setCell ⟨w2.heap.size,4,none⟩ (.int .i64 (n4:Nat))).setCell ⟨w2.heap.size,5,none⟩ (.int .i64 (n5:Nat)):=⟨_,rfl⟩
 have S5:Hid (St w w4 [thRO w (w.heap.size+1) g (if z then rr else []) (if z then rb else true),thObj w2.heap.size (.cells #[.int .i64 (n0:Nat),.int .i64 (n1:Nat),.int .i64 (n2:Nat),.int .i64 (n3:Nat),.int .i64 (n4:Nat),.int .i64 (n5:Nat)] 32 (0,0)),thObj w.heap.size (.cells #[.int .i64 0,.int .i64 0,.int .i64 0,.int .i64 0,.int .i64 0,.int .i64 0] 32 (0,0))]):=by
  rw [hw4];exact (((((S4.out.pull (A:=[_])).setObj 2 (.int .i64 (n2:Nat))).setObj 3 (.int .i64 (n3:Nat))).setObj 4 (.int .i64 (n4:Nat))).setObj 5 (.int .i64 (n5:Nat))).pull (A:=[_])
 rw [←hw4]
 clear S4 hl1 hc1 hf1 hw4
 have hwh:=St.wholeO S5.out
 obtain ⟨hl0,hc0,hf0⟩:=S5.out.cellsN 2 rfl
 obtain ⟨hl1,hc1,hf1⟩:=S5.out.cellsN 1 rfl
 have hb4:=S5.out.b
 cases z with
 | false =>
  have HGf:Hid (goodP l=false):=by
   rw [HI.out.good]
   have:mayR ⟨n0,n1,⟨n2,n3,n4,n5⟩⟩=false:=by unfold mayR;rw [Hz.out,Bool.and_false]
   rw [this,Bool.and_false];rfl
  have Hwh:Hid (Calls Tryz.prog 95 #[.pointer (some ⟨w.heap.size+1,0,none⟩)] w4 fun e w'=>e=.returned (.bool false)∧w'=w4):=hwh
  clear hwh
  refine Hwh.out.mono ?_
  rintro e w5 ⟨rfl,rfl⟩
  (go_wp2_with fail);exact bodyPost_ret (v:=.tuple #[.agg #[.int .i64 0,.int .i64 0,.int .i64 0,.int .i64 0,.int .i64 0,.int .i64 0],.int .i64 3]) (by simp only [results,Tryz.results94];go_simp) rfl ⟨by rw [(repR_no HGf.out).1,(repR_no HGf.out).2];rfl,bg⟩
 | true =>
  simp only [if_true] at hwh
  cases hy:(!rb&&rr.isEmpty) with
  | false =>
   have HGf:Hid (goodP l=false):=by rw [HI.out.good,hy];rfl
   rw [hy] at hwh
   have Hwh:=Lib.hid hwh
   clear hy hwh
   refine Hwh.out.mono ?_
   rintro e w5 ⟨rfl,rfl⟩
   (go_wp2_with fail);exact bodyPost_ret (v:=.tuple #[.agg #[.int .i64 0,.int .i64 0,.int .i64 0,.int .i64 0,.int .i64 0,.int .i64 0],.int .i64 3]) (by simp only [results,Tryz.results94];go_simp) rfl ⟨by rw [(repR_no HGf.out).1,(repR_no HGf.out).2];rfl,bg⟩
  | true =>
   have HGz:Hid (goodP l=mayR ⟨n0,n1,⟨n2,n3,n4,n5⟩⟩):=by rw [HI.out.good,hy,Bool.true_and];rfl
   rw [hy] at hwh
   have Hwh:=Lib.hid hwh
   clear hy hwh
   by_cases h19:n0≤19
   ·have hd:decide ((19:Int)<n0)=false:=by rw [decide_eq_false_iff_not];omega
    obtain ⟨y,hy⟩:∃ y,mayR ⟨n0,n1,⟨n2,n3,n4,n5⟩⟩=y:=⟨_,rfl⟩
    have hmy:=fun w=>qsatrapyref10.MayReply_any ⟨n0,n1,⟨n2,n3,n4,n5⟩⟩ w y hy
    simp only at hmy
    have Hmy:=Lib.hid hmy
    rw [hy] at HGz
    clear hmy hy h19
    refine Hwh.out.mono ?_
    rintro e w5 ⟨rfl,rfl⟩
    go_wp2_with fail
    refine (Hmy.out _).mono ?_
    rintro e w6 ⟨rfl,hb⟩
    have S6:=Lib.hid (S5.out.grow hb)
    clear hb hl0 hc0 hf0 hl1 hc1 hf1 hb4 S5
    obtain ⟨hl0,hc0,hf0⟩:=S6.out.cellsN 2 rfl
    obtain ⟨hl1,hc1,hf1⟩:=S6.out.cellsN 1 rfl
    have hb6:=S6.out.b
    cases y with
    | false =>
     have HGf:Hid (goodP l=false):=HGz
     (go_wp2_with fail);exact bodyPost_ret (v:=.tuple #[.agg #[.int .i64 0,.int .i64 0,.int .i64 0,.int .i64 0,.int .i64 0,.int .i64 0],.int .i64 3]) (by simp only [results,Tryz.results94];go_simp) rfl ⟨by rw [(repR_no HGf.out).1,(repR_no HGf.out).2];rfl,bg⟩
    | true =>
     have HGt:Hid (goodP l=true):=HGz
     (go_wp2_with fail);exact bodyPost_ret (v:=.tuple #[.agg #[.int .i64 (n0:Nat),.int .i64 (n1:Nat),.int .i64 (n2:Nat),.int .i64 (n3:Nat),.int .i64 (n4:Nat),.int .i64 (n5:Nat)],.int .i64 0]) (by simp only [results,Tryz.results94];go_simp) rfl ⟨by rw [(repR_yes HGt.out).1,(repR_yes HGt.out).2,HI.out.rp],bg⟩
   ·have hd:decide ((19:Int)<n0)=true:=by rw [decide_eq_true_eq];omega
    have HGf:Hid (goodP l=false):=by
     rw [HGz.out]
     have:mayR ⟨n0,n1,⟨n2,n3,n4,n5⟩⟩=false:=by
      cases hq:mayR ⟨n0,n1,⟨n2,n3,n4,n5⟩⟩ with
      | false=>rfl
      | true=>rw [mayR_iff] at hq;simp only at hq;omega
     rw [this];rfl
    clear h19
    refine Hwh.out.mono ?_
    rintro e w5 ⟨rfl,rfl⟩
    (go_wp2_with fail);exact bodyPost_ret (v:=.tuple #[.agg #[.int .i64 0,.int .i64 0,.int .i64 0,.int .i64 0,.int .i64 0,.int .i64 0],.int .i64 3]) (by simp only [results,Tryz.results94];go_simp) rfl ⟨by rw [(repR_no HGf.out).1,(repR_no HGf.out).2];rfl,bg⟩
end Go.Proofs.YthlcmjgdilebeaaGreat