/- Texts put together: Dec, RepD. -/
import Derived.Test.YtogamdaomdoapaaGreatSa07
import Derived.Test.YtogamdaomdoapaaGreatSa10
import Derived.Test.YtogamdaomdoapaaGreatSa18
import Derived.Test.YtogamdaomdoapaaGreatSa30
namespace Go.Proofs.YtogamdaomdoapaaGreat
open Go.RowKit
theorem equal_any (ao bo:Option Addr) (ca cb:Nat) (a b:List UInt8) (w:World) (ha:BAt w ao a) (hb:BAt w bo b) :
 Calls Tryz.prog 53 #[.slice ao a.length ca,.slice bo b.length cb] w fun e w'=>e=.returned (.bool (a==b))∧w=w':=by
 have h1:=conv_str ha ca
 have h2:=conv_str hb cb
 clear ha hb
 go_enter Tryz.func53,Tryz.ntmps53
 go_wp2_with fail
 go_ret
 exact ⟨rfl,rfl⟩
def DecPost (w:World) (l:List UInt8) (e:Ending) (w':World):Prop:=Below w.heap.size w w' ∧
 if goodD l=true then e=.returned (.tuple #[.agg #[.int .i64 (dqQ (decD l)).kind,.int .i64 (dqQ (decD l)).client,.int .i64 (dqQ (decD l)).seq,.string (dqQ (decD l)).key,.string (dqQ (decD l)).who,.string (dqQ (decD l)).tkey,.string (dqQ (decD l)).twho,.int .i64 (dqQ (decD l)).item,.int .i64 (dqQ (decD l)).count,.int .i64 (dqQ (decD l)).price,.bool (dqQ (decD l)).buy,.int .i64 (dqQ (decD l)).id],.int .i64 0]) else e=.returned (.tuple #[.agg #[.int .i64 0,.int .i64 0,.int .i64 0,.string ⟨#[]⟩,.string ⟨#[]⟩,.string ⟨#[]⟩,.string ⟨#[]⟩,.int .i64 0,.int .i64 0,.int .i64 0,.bool false,.int .i64 0],.int .i64 3])
theorem txt_size (l:List UInt8):(⟨l.toArray⟩:ByteArray).size=l.length:=by simp [ByteArray.size]
structure DIs (l:List UInt8) (d:Dq) (r3:List UInt8) (b3:Bool) (r4:List UInt8) (b4:Bool) (r5:List UInt8) (b5:Bool) (r6:List UInt8) (b6:Bool) (r7:List UInt8) (b7:Bool):Prop where
 qk:d.k=rdVal l false 0
 qc:d.c=rdVal l false 1
 qs:d.s=rdVal l false 2
 q3:r3=(rdSt l false 3).1
 p3:b3=(rdSt l false 3).2
 ta:tookOf r3 b3=(d.key,r4,b4)
 tb:tookOf r4 b4=(d.who,r5,b5)
 tc:tookOf r5 b5=(d.tkey,r6,b6)
 td:tookOf r6 b6=(d.twho,r7,b7)
 qi:d.i=rdVal r7 b7 0
 qn:d.n=rdVal r7 b7 1
 qp:d.p=rdVal r7 b7 2
 qb:d.b=rdVal r7 b7 3
 qd:d.d=rdVal r7 b7 4
 qr:d.rest=(rdSt r7 b7 5).1
 qx:d.bad=(rdSt r7 b7 5).2
 la:r3.length≤l.length
 lb:r4.length≤l.length
 lc:r5.length≤l.length
 ld:r6.length≤l.length
 le:r7.length≤l.length
theorem etaT (t:List UInt8 × List UInt8 × Bool):t=(t.1,t.2.1,t.2.2):=rfl
theorem took_len {s:List UInt8 × Bool} {t:List UInt8 × List UInt8 × Bool} (ht:t=tookOf s.1 s.2):t.2.1.length≤s.1.length:=(tookOf_le (show (t.1,t.2.1,t.2.2)=tookOf s.1 s.2 from (etaT t).symm.trans ht)).2
theorem dec_parts (l:List UInt8):∃ d r3 b3 r4 b4 r5 b5 r6 b6 r7 b7,d=decD l∧DIs l d r3 b3 r4 b4 r5 b5 r6 b6 r7 b7:=by
 have h3:=rdSt_le l false 3
 have h4:=took_len (s:=rdSt l false 3) (t:=tk1 l) rfl
 have h5:=took_len (s:=(tk1 l).2) (t:=tk2 l) rfl
 have h6:=took_len (s:=(tk2 l).2) (t:=tk3 l) rfl
 have h7:=took_len (s:=(tk3 l).2) (t:=tk4 l) rfl
 have e1:tookOf (rdSt l false 3).1 (rdSt l false 3).2=((tk1 l).1,(tk1 l).2.1,(tk1 l).2.2):=etaT (tk1 l)
 have e2:tookOf (tk1 l).2.1 (tk1 l).2.2=((tk2 l).1,(tk2 l).2.1,(tk2 l).2.2):=etaT (tk2 l)
 have e3:tookOf (tk2 l).2.1 (tk2 l).2.2=((tk3 l).1,(tk3 l).2.1,(tk3 l).2.2):=etaT (tk3 l)
 have e4:tookOf (tk3 l).2.1 (tk3 l).2.2=((tk4 l).1,(tk4 l).2.1,(tk4 l).2.2):=etaT (tk4 l)
 refine ⟨decD l,(rdSt l false 3).1,(rdSt l false 3).2,(tk1 l).2.1,(tk1 l).2.2,(tk2 l).2.1,(tk2 l).2.2,(tk3 l).2.1,(tk3 l).2.2,(tk4 l).2.1,(tk4 l).2.2,rfl,⟨by simp only [decD],by simp only [decD],by simp only [decD],rfl,rfl,by simp only [decD];exact e1,by simp only [decD];exact e2,by simp only [decD];exact e3,by simp only [decD];exact e4,by simp only [decD],by simp only [decD],by simp only [decD],by simp only [decD],by simp only [decD],by simp only [decD],by simp only [decD],h3,Nat.le_trans h4 h3,Nat.le_trans h5 (Nat.le_trans h4 h3),Nat.le_trans h6 (Nat.le_trans h5 (Nat.le_trans h4 h3)),Nat.le_trans h7 (Nat.le_trans h6 (Nat.le_trans h5 (Nat.le_trans h4 h3)))⟩⟩
set_option maxRecDepth 40000 in
set_option maxHeartbeats 4000000 in
theorem dec_any (ao:Option Addr) (cap:Nat) (l:List UInt8) (w:World) (h0:ao=none→l.length=0∧cap=0) (ha:BAt w ao l) (hm:l.length≤2000) :
 Calls Tryz.prog 86 #[.slice ao l.length cap] w (DecPost w l):=by
 have Ha:=Lib.hid ha
 have H0:=Lib.hid h0
 have Hm:=Lib.hid hm
 clear ha h0
 go_enter Tryz.func86,Tryz.ntmps86
 go_wp2_with fail
 have S0:Hid (St w _ [thObj (w.heap.size+1+1) (.cells #[.int .i64 0] 3 (0,0)),thObj (w.heap.size+1) (.cells #[.int .i64 0,.int .i64 0,.int .i64 0,.string ⟨#[]⟩,.string ⟨#[]⟩,.string ⟨#[]⟩,.string ⟨#[]⟩,.int .i64 0,.int .i64 0,.int .i64 0,.bool false,.int .i64 0] 30 (0,0)),thObj w.heap.size (.cells #[.int .i64 0,.int .i64 0,.int .i64 0,.string ⟨#[]⟩,.string ⟨#[]⟩,.string ⟨#[]⟩,.string ⟨#[]⟩,.int .i64 0,.int .i64 0,.int .i64 0,.bool false,.int .i64 0] 30 (0,0))]):=(((St.start w).objN (.cells #[.int .i64 0,.int .i64 0,.int .i64 0,.string ⟨#[]⟩,.string ⟨#[]⟩,.string ⟨#[]⟩,.string ⟨#[]⟩,.int .i64 0,.int .i64 0,.int .i64 0,.bool false,.int .i64 0] 30) w.heap.size rfl).objN (.cells #[.int .i64 0,.int .i64 0,.int .i64 0,.string ⟨#[]⟩,.string ⟨#[]⟩,.string ⟨#[]⟩,.string ⟨#[]⟩,.int .i64 0,.int .i64 0,.int .i64 0,.bool false,.int .i64 0] 30) (w.heap.size+1) (by simp)).objN (.cells #[.int .i64 0] 3) (w.heap.size+1+1) (by simp)
 refine (newReader_any ao cap l _ H0.out (Ha.out.below S0.out.b) (by omega)).mono ?_
 rintro e w1 ⟨p,g,rfl,hr,hb,hp,hg⟩
 have S1:=Lib.hid (S0.out.newRd hr hb hp hg)
 clear S0 hr hb hp hg
 go_wp2_with fail
 refine (St.readNums (O:=[(w.heap.size+1+1,#[.int .i64 0],3),(w.heap.size+1,#[.int .i64 0,.int .i64 0,.int .i64 0,.string ⟨#[]⟩,.string ⟨#[]⟩,.string ⟨#[]⟩,.string ⟨#[]⟩,.int .i64 0,.int .i64 0,.int .i64 0,.bool false,.int .i64 0],30),(w.heap.size,#[.int .i64 0,.int .i64 0,.int .i64 0,.string ⟨#[]⟩,.string ⟨#[]⟩,.string ⟨#[]⟩,.string ⟨#[]⟩,.int .i64 0,.int .i64 0,.int .i64 0,.bool false,.int .i64 0],30)]) (L:=[]) S1.out (by omega) [(1,0),(1,1),(1,2)] ?_ w1.heap.size 3 rfl rfl (by simp) _ _ rfl).mono ?_
 ·intro q hq
  simp only [List.mem_cons,List.not_mem_nil,or_false] at hq
  rcases hq with rfl | rfl | rfl<;>exact ⟨_,_,rfl,rfl⟩
 rintro e w2 ⟨rfl,hS⟩
 obtain ⟨d,r3,b3,r4,b4,r5,b5,r6,b6,r7,b7,hd,HI⟩:=dec_parts l
 have S2:Hid (St w w2 [thRd p g r3 b3,thObj (w.heap.size+1+1) (.cells #[.int .i64 0] 3 (0,0)),thObj (w.heap.size+1) (.cells #[.int .i64 (d.k:Nat),.int .i64 (d.c:Nat),.int .i64 (d.s:Nat),.string ⟨#[]⟩,.string ⟨#[]⟩,.string ⟨#[]⟩,.string ⟨#[]⟩,.int .i64 0,.int .i64 0,.int .i64 0,.bool false,.int .i64 0] 30 (0,0)),thObj w.heap.size (.cells #[.int .i64 0,.int .i64 0,.int .i64 0,.string ⟨#[]⟩,.string ⟨#[]⟩,.string ⟨#[]⟩,.string ⟨#[]⟩,.int .i64 0,.int .i64 0,.int .i64 0,.bool false,.int .i64 0] 30 (0,0))]):=by
  rw [HI.qk,HI.qc,HI.qs,HI.q3,HI.p3]
  exact hS
 have HI:=Lib.hid HI
 have Hd:=Lib.hid hd
 clear hS S1 hd
 go_wp2_with fail
 have S3:Hid (St w _ [thRd p g r3 b3,thObj w2.heap.size (.cells #[.pointer (some ⟨w.heap.size+1,3,none⟩),.pointer (some ⟨w.heap.size+1,4,none⟩),.pointer (some ⟨w.heap.size+1,5,none⟩),.pointer (some ⟨w.heap.size+1,6,none⟩)] 183 (0,0)),thObj (w.heap.size+1+1) (.cells #[.int .i64 0] 3 (0,0)),thObj (w.heap.size+1) (.cells #[.int .i64 (d.k:Nat),.int .i64 (d.c:Nat),.int .i64 (d.s:Nat),.string ⟨#[]⟩,.string ⟨#[]⟩,.string ⟨#[]⟩,.string ⟨#[]⟩,.int .i64 0,.int .i64 0,.int .i64 0,.bool false,.int .i64 0] 30 (0,0)),thObj w.heap.size (.cells #[.int .i64 0,.int .i64 0,.int .i64 0,.string ⟨#[]⟩,.string ⟨#[]⟩,.string ⟨#[]⟩,.string ⟨#[]⟩,.int .i64 0,.int .i64 0,.int .i64 0,.bool false,.int .i64 0] 30 (0,0))]):=(S2.out.objN (.cells #[.pointer (some ⟨w.heap.size+1,3,none⟩),.pointer (some ⟨w.heap.size+1,4,none⟩),.pointer (some ⟨w.heap.size+1,5,none⟩),.pointer (some ⟨w.heap.size+1,6,none⟩)] 183) w2.heap.size rfl).pull (A:=[_])
 clear S2
 refine wp_loop_rounds 5 ?_
 (rw [rounds_succ];(obtain ⟨hlp,hcp,-⟩:=S3.out.cellsN 1 rfl);(go_wp2_with fail);(have hcall:=St.readBytes S3.out (by have:=HI.out.la;omega));(rw [HI.out.ta] at hcall);(refine hcall.mono ?_);clear hcall;rintro e w3 ⟨yo,yc,rfl,ho,hS⟩;(have T:=Lib.hid hS);(obtain ⟨hl1,hc1,hf1⟩:=T.out.cellsN 3 rfl);(have hcv:=conv_str ho.at yc);clear ho hS hcp hlp;(go_wp2_with fail);(have S4:=Lib.hid (((T.out.pull (A:=[_,_,_])).setObj 3 (.string ⟨d.key.toArray⟩)).pull (A:=[_])));clear T hcv hl1 hc1 hf1)
 (rw [rounds_succ];(obtain ⟨hlp,hcp,-⟩:=S4.out.cellsN 2 rfl);(go_wp2_with fail);(have hcall:=St.readBytes S4.out (by have:=HI.out.lb;omega));(rw [HI.out.tb] at hcall);(refine hcall.mono ?_);clear hcall;rintro e w4 ⟨yo,yc,rfl,ho,hS⟩;(have T:=Lib.hid hS);(obtain ⟨hl1,hc1,hf1⟩:=T.out.cellsN 1 rfl);(have hcv:=conv_str ho.at yc);clear ho hS hcp hlp;(go_wp2_with fail);(have S5:=Lib.hid (((T.out.pull (A:=[_])).setObj 4 (.string ⟨d.who.toArray⟩)).pull (A:=[_])));clear T hcv hl1 hc1 hf1)
 (rw [rounds_succ];(obtain ⟨hlp,hcp,-⟩:=S5.out.cellsN 2 rfl);(go_wp2_with fail);(have hcall:=St.readBytes S5.out (by have:=HI.out.lc;omega));(rw [HI.out.tc] at hcall);(refine hcall.mono ?_);clear hcall;rintro e w5 ⟨yo,yc,rfl,ho,hS⟩;(have T:=Lib.hid hS);(obtain ⟨hl1,hc1,hf1⟩:=T.out.cellsN 1 rfl);(have hcv:=conv_str ho.at yc);clear ho hS hcp hlp;(go_wp2_with fail);(have S6:=Lib.hid (((T.out.pull (A:=[_])).setObj 5 (.string ⟨d.tkey.toArray⟩)).pull (A:=[_])));clear T hcv hl1 hc1 hf1)
 (rw [rounds_succ];(obtain ⟨hlp,hcp,-⟩:=S6.out.cellsN 2 rfl);(go_wp2_with fail);(have hcall:=St.readBytes S6.out (by have:=HI.out.ld;omega));(rw [HI.out.td] at hcall);(refine hcall.mono ?_);clear hcall;rintro e w6 ⟨yo,yc,rfl,ho,hS⟩;(have T:=Lib.hid hS);(obtain ⟨hl1,hc1,hf1⟩:=T.out.cellsN 1 rfl);(have hcv:=conv_str ho.at yc);clear ho hS hcp hlp;(go_wp2_with fail);(have S7:=Lib.hid (((T.out.pull (A:=[_])).setObj 6 (.string ⟨d.twho.toArray⟩)).pull (A:=[_])));clear T hcv hl1 hc1 hf1)
 rw [rounds_succ]
 go_wp2_with fail
 obtain ⟨w7,hw7⟩:∃ w7,w7=w6.setCell ⟨w.heap.size+1,6,none⟩ (.string ⟨d.twho.toArray⟩):=⟨_,rfl⟩
 rw [←hw7] at S7 ⊢
 have Hz7:Hid (w6.heap.size=w7.heap.size):=by rw [hw7];simp [Hid,World.setCell]
 clear hw7
 have S8:Hid (St w w7 (thRd p g r7 b7::(List.map thOb [(w.heap.size+1,#[.int .i64 (d.k:Nat),.int .i64 (d.c:Nat),.int .i64 (d.s:Nat),.string ⟨d.key.toArray⟩,.string ⟨d.who.toArray⟩,.string ⟨d.tkey.toArray⟩,.string ⟨d.twho.toArray⟩,.int .i64 0,.int .i64 0,.int .i64 0,.bool false,.int .i64 0],30),(w2.heap.size,#[.pointer (some ⟨w.heap.size+1,3,none⟩),.pointer (some ⟨w.heap.size+1,4,none⟩),.pointer (some ⟨w.heap.size+1,5,none⟩),.pointer (some ⟨w.heap.size+1,6,none⟩)],183),(w.heap.size+1+1,#[.int .i64 0],3),(w.heap.size,#[.int .i64 0,.int .i64 0,.int .i64 0,.string ⟨#[]⟩,.string ⟨#[]⟩,.string ⟨#[]⟩,.string ⟨#[]⟩,.int .i64 0,.int .i64 0,.int .i64 0,.bool false,.int .i64 0],30)]++[]))):=S7
 clear S7
 refine (St.readNums S8.out (by have:=HI.out.le;omega) [(0,7),(0,8),(0,9),(2,0),(0,11)] ?_ w6.heap.size 5 Hz7.out rfl (by simp) _ _ rfl).mono ?_
 ·intro q hq
  simp only [List.mem_cons,List.not_mem_nil,or_false] at hq
  rcases hq with rfl | rfl | rfl | rfl | rfl<;>exact ⟨_,_,rfl,rfl⟩
 rintro e w8 ⟨rfl,hS⟩
 have S9:Hid (St w w8 [thRd p g d.rest d.bad,thObj (w.heap.size+1) (.cells #[.int .i64 (d.k:Nat),.int .i64 (d.c:Nat),.int .i64 (d.s:Nat),.string ⟨d.key.toArray⟩,.string ⟨d.who.toArray⟩,.string ⟨d.tkey.toArray⟩,.string ⟨d.twho.toArray⟩,.int .i64 (d.i:Nat),.int .i64 (d.n:Nat),.int .i64 (d.p:Nat),.bool false,.int .i64 (d.d:Nat)] 30 (0,0)),thObj w2.heap.size (.cells #[.pointer (some ⟨w.heap.size+1,3,none⟩),.pointer (some ⟨w.heap.size+1,4,none⟩),.pointer (some ⟨w.heap.size+1,5,none⟩),.pointer (some ⟨w.heap.size+1,6,none⟩)] 183 (0,0)),thObj (w.heap.size+1+1) (.cells #[.int .i64 (d.b:Nat)] 3 (0,0)),thObj w.heap.size (.cells #[.int .i64 0,.int .i64 0,.int .i64 0,.string ⟨#[]⟩,.string ⟨#[]⟩,.string ⟨#[]⟩,.string ⟨#[]⟩,.int .i64 0,.int .i64 0,.int .i64 0,.bool false,.int .i64 0] 30 (0,0))]):=by
  rw [HI.out.qr,HI.out.qx,HI.out.qi,HI.out.qn,HI.out.qp,HI.out.qd,HI.out.qb]
  exact hS
 clear hS S8
 obtain ⟨hl1,hc1,hf1⟩:=S9.out.cellsN 1 rfl
 obtain ⟨hl2,hc2,hf2⟩:=S9.out.cellsN 3 rfl
 obtain ⟨bb,hbb⟩:∃ bb:Bool,bb=(d.b==1):=⟨_,rfl⟩
 have hbi:((d.b:Int)==1)=bb:=by rw [hbb];exact Bool.eq_iff_iff.2 (by simp only [beq_iff_eq];omega)
 have Hbb:=Lib.hid hbb
 clear hbb
 go_wp2_with fail
 have S10:Hid (St w _ [thRd p g d.rest d.bad,thObj (w.heap.size+1) (.cells #[.int .i64 (d.k:Nat),.int .i64 (d.c:Nat),.int .i64 (d.s:Nat),.string ⟨d.key.toArray⟩,.string ⟨d.who.toArray⟩,.string ⟨d.tkey.toArray⟩,.string ⟨d.twho.toArray⟩,.int .i64 (d.i:Nat),.int .i64 (d.n:Nat),.int .i64 (d.p:Nat),.bool bb,.int .i64 (d.d:Nat)] 30 (0,0)),thObj w2.heap.size (.cells #[.pointer (some ⟨w.heap.size+1,3,none⟩),.pointer (some ⟨w.heap.size+1,4,none⟩),.pointer (some ⟨w.heap.size+1,5,none⟩),.pointer (some ⟨w.heap.size+1,6,none⟩)] 183 (0,0)),thObj (w.heap.size+1+1) (.cells #[.int .i64 (d.b:Nat)] 3 (0,0)),thObj w.heap.size (.cells #[.int .i64 0,.int .i64 0,.int .i64 0,.string ⟨#[]⟩,.string ⟨#[]⟩,.string ⟨#[]⟩,.string ⟨#[]⟩,.int .i64 0,.int .i64 0,.int .i64 0,.bool false,.int .i64 0] 30 (0,0))]):=((S9.out.pull (A:=[_])).setObj 10 (.bool bb)).pull (A:=[_])
 clear S9 hl1 hc1 hf1 hl2 hc2 hf2 hbi
 have HG:Hid (goodD l=(wholeD d&&mayO (dqQ d)&&(l==encO (dqQ d)))):=by rw [Hd.out];exact (goodD_prog l).symm
 have HQ:Hid (dqQ d=⟨d.k,d.c,d.s,⟨d.key.toArray⟩,⟨d.who.toArray⟩,⟨d.tkey.toArray⟩,⟨d.twho.toArray⟩,d.i,d.n,d.p,bb,d.d⟩):=by rw [Hbb.out];rfl
 have HL:Hid (d.rest.length≤140737488351232):=by
  have h1:=rdSt_le r7 b7 5
  have h2:=HI.out.le
  rw [←HI.out.qr] at h1
  show _≤_
  omega
 cases hmy:mayO (dqQ d) with
 | false =>
  have hG:goodD l=false:=by rw [HG.out,hmy];simp
  have HGf:=Lib.hid hG
  rw [HQ.out] at hmy
  have He:=fun w=>encode_no _ w hmy
  simp only at He
  have He:=Lib.hid He
  clear hmy hG HG
  refine (He.out _).mono ?_
  rintro e w10 ⟨rfl,hb⟩
  have S11:=Lib.hid (S10.out.grow hb)
  clear S10 hb
  obtain ⟨hl0,hc0,hf0⟩:=S11.out.cellsN 4 rfl;(have hb10:=S11.out.b);(have Hwh:=Lib.hid (whole_any p g d.rest d.bad w10 S11.out.head HL.out))
  cases hz:(!d.bad&&d.rest.isEmpty) with
  | true =>
   rw [hz] at Hwh
   clear hz
   (go_wp2_with fail);(refine Hwh.out.mono ?_);(rintro e w11 ⟨rfl,rfl⟩);(go_wp2_with fail);exact bodyPost_ret (v:=.tuple #[.agg #[.int .i64 0,.int .i64 0,.int .i64 0,.string ⟨#[]⟩,.string ⟨#[]⟩,.string ⟨#[]⟩,.string ⟨#[]⟩,.int .i64 0,.int .i64 0,.int .i64 0,.bool false,.int .i64 0],.int .i64 3]) (by simp only [results,Tryz.results86];go_simp) rfl ⟨bg,by rw [if_neg (by rw [HGf.out];simp)]⟩
  | false =>
   rw [hz] at Hwh
   clear hz
   (go_wp2_with fail);(refine Hwh.out.mono ?_);(rintro e w11 ⟨rfl,rfl⟩);(go_wp2_with fail);exact bodyPost_ret (v:=.tuple #[.agg #[.int .i64 0,.int .i64 0,.int .i64 0,.string ⟨#[]⟩,.string ⟨#[]⟩,.string ⟨#[]⟩,.string ⟨#[]⟩,.int .i64 0,.int .i64 0,.int .i64 0,.bool false,.int .i64 0],.int .i64 3]) (by simp only [results,Tryz.results86];go_simp) rfl ⟨bg,by rw [if_neg (by rw [HGf.out];simp)]⟩
 | true =>
  have hEq:=HG.out
  rw [hmy,Bool.and_true] at hEq
  have hmq:=hmy
  rw [HQ.out] at hmy
  have He:=fun w=>enc_yes _ w hmy
  simp only at He
  obtain ⟨X,hX⟩:∃ X,X=encO (dqQ d):=⟨_,rfl⟩
  rw [←hX] at hEq
  rw [HQ.out] at hX
  rw [←hX] at He
  have He:=Lib.hid He
  have HEq:=Lib.hid hEq
  clear hmy hEq hX HG
  refine (He.out _).mono ?_
  rintro e w10 ⟨xo,xc,rfl,ho,hb⟩
  have S11:=Lib.hid (S10.out.grow hb)
  have Ho:=Lib.hid ho
  clear S10 hb ho
  obtain ⟨hl0,hc0,hf0⟩:=S11.out.cellsN 4 rfl;(have hb10:=S11.out.b);(have Hwh:=Lib.hid (whole_any p g d.rest d.bad w10 S11.out.head HL.out))
  cases hz:(!d.bad&&d.rest.isEmpty) with
  | false =>
   have HGf:Hid (goodD l=false):=by rw [HEq.out];unfold wholeD;rw [hz];simp [Hid]
   rw [hz] at Hwh
   clear hz
   (go_wp2_with fail);(refine Hwh.out.mono ?_);(rintro e w11 ⟨rfl,rfl⟩);(go_wp2_with fail);exact bodyPost_ret (v:=.tuple #[.agg #[.int .i64 0,.int .i64 0,.int .i64 0,.string ⟨#[]⟩,.string ⟨#[]⟩,.string ⟨#[]⟩,.string ⟨#[]⟩,.int .i64 0,.int .i64 0,.int .i64 0,.bool false,.int .i64 0],.int .i64 3]) (by simp only [results,Tryz.results86];go_simp) rfl ⟨bg,by rw [if_neg (by rw [HGf.out];simp)]⟩
  | true =>
   have HGz:Hid (goodD l=(l==X)):=by rw [HEq.out];unfold wholeD;rw [hz];simp [Hid]
   rw [hz] at Hwh
   clear hz
   have Heql:=Lib.hid (equal_any ao xo cap xc l X w10 (Ha.out.below S11.out.b) Ho.out.at)
   cases hq:(l==X) with
   | false =>
    have HGf:Hid (goodD l=false):=by rw [HGz.out,hq];rfl
    rw [hq] at Heql
    clear hq
    go_wp2_with fail
    refine Hwh.out.mono ?_
    rintro e w11 ⟨rfl,rfl⟩
    go_wp2_with fail
    refine Heql.out.mono ?_
    rintro e w12 ⟨rfl,rfl⟩
    go_wp2_with fail
    exact bodyPost_ret (v:=.tuple #[.agg #[.int .i64 0,.int .i64 0,.int .i64 0,.string ⟨#[]⟩,.string ⟨#[]⟩,.string ⟨#[]⟩,.string ⟨#[]⟩,.int .i64 0,.int .i64 0,.int .i64 0,.bool false,.int .i64 0],.int .i64 3]) (by simp only [results,Tryz.results86];go_simp) rfl ⟨bg,by rw [if_neg (by rw [HGf.out];simp)]⟩
   | true =>
    have HGt:Hid (goodD l=true):=by rw [HGz.out,hq];rfl
    rw [hq] at Heql
    clear hq
    obtain ⟨hl1,hc1,hf1⟩:=S11.out.cellsN 1 rfl
    go_wp2_with fail
    refine Hwh.out.mono ?_
    rintro e w11 ⟨rfl,rfl⟩
    go_wp2_with fail
    refine Heql.out.mono ?_
    rintro e w12 ⟨rfl,rfl⟩
    go_wp2_with fail
    refine bodyPost_ret (v:=.tuple #[.agg #[.int .i64 (d.k:Nat),.int .i64 (d.c:Nat),.int .i64 (d.s:Nat),.string ⟨d.key.toArray⟩,.string ⟨d.who.toArray⟩,.string ⟨d.tkey.toArray⟩,.string ⟨d.twho.toArray⟩,.int .i64 (d.i:Nat),.int .i64 (d.n:Nat),.int .i64 (d.p:Nat),.bool bb,.int .i64 (d.d:Nat)],.int .i64 0]) (by simp only [results,Tryz.results86];go_simp) rfl ⟨bg,?_⟩
    rw [if_pos HGt.out,←Hd.out,HQ.out]
end Go.Proofs.YtogamdaomdoapaaGreat
namespace Go.Proofs.YtogamdaomdoapaaGreat
open Go.RowKit
def RepDec (w:World) (l:List UInt8) (e:Ending) (w':World):Prop:=e=.returned (.tuple #[.agg #[.int .i64 (repR l).err,.int .i64 (repR l).id,.int .i64 (repR l).i.a,.int .i64 (repR l).i.b,.int .i64 (repR l).i.c,.int .i64 (repR l).i.d],.int .i64 (repE l)])∧Below w.heap.size w w'
structure RIs (l:List UInt8) (n0 n1 n2 n3 n4 n5:Nat) (rr:List UInt8) (rb:Bool):Prop where
 v0:rdVal l false 0=n0
 v1:rdVal l false 1=n1
 v2:rdVal l false 2=n2
 v3:rdVal l false 3=n3
 v4:rdVal l false 4=n4
 v5:rdVal l false 5=n5
 sr:(rdSt l false 6).1=rr
 sb:(rdSt l false 6).2=rb
 good:goodP l=((!rb&&rr.isEmpty)&&mayR ⟨n0,n1,⟨n2,n3,n4,n5⟩⟩)
 rp:rpOf l=⟨n0,n1,⟨n2,n3,n4,n5⟩⟩
 len:rr.length≤l.length
theorem rep_parts (l:List UInt8):∃ n0 n1 n2 n3 n4 n5 rr rb,RIs l n0 n1 n2 n3 n4 n5 rr rb:=⟨_,_,_,_,_,_,_,_,⟨rfl,rfl,rfl,rfl,rfl,rfl,rfl,rfl,rfl,rfl,rdSt_le _ _ _⟩⟩
theorem repR_no {l:List UInt8} (h:goodP l=false):repR l=zRp∧repE l=3:=by unfold repR repE;rw [h];exact ⟨rfl,rfl⟩
theorem repR_yes {l:List UInt8} (h:goodP l=true):repR l=rpOf l∧repE l=0:=by unfold repR repE;rw [h];exact ⟨rfl,rfl⟩
set_option maxRecDepth 40000 in
set_option maxHeartbeats 4000000 in
theorem decrep_any (ao:Option Addr) (cap:Nat) (l:List UInt8) (w:World) (h0:ao=none→l.length=0∧cap=0) (ha:BAt w ao l) (hm:l.length≤2000) :
 Calls Tryz.prog 87 #[.slice ao l.length cap] w (RepDec w l):=by
 have Ha:=Lib.hid ha
 have H0:=Lib.hid h0
 obtain ⟨n0,n1,n2,n3,n4,n5,rr,rb,HI⟩:=rep_parts l
 have HI:=Lib.hid HI
 clear ha h0
 go_enter Tryz.func87,Tryz.ntmps87
 go_wp2_with fail
 have S0:Hid (St w _ [thObj (w.heap.size+1+1) (.cells #[.int .i64 0] 3 (0,0)),thObj (w.heap.size+1) (.cells #[.int .i64 0,.int .i64 0,.int .i64 0,.int .i64 0,.int .i64 0,.int .i64 0] 41 (0,0)),thObj w.heap.size (.cells #[.int .i64 0,.int .i64 0,.int .i64 0,.int .i64 0,.int .i64 0,.int .i64 0] 41 (0,0))]):=(((St.start w).objN (.cells #[.int .i64 0,.int .i64 0,.int .i64 0,.int .i64 0,.int .i64 0,.int .i64 0] 41) w.heap.size rfl).objN (.cells #[.int .i64 0,.int .i64 0,.int .i64 0,.int .i64 0,.int .i64 0,.int .i64 0] 41) (w.heap.size+1) (by simp)).objN (.cells #[.int .i64 0] 3) (w.heap.size+1+1) (by simp)
 refine (newReader_any ao cap l _ H0.out (Ha.out.below S0.out.b) (by omega)).mono ?_
 rintro e w1 ⟨p,g,rfl,hr,hb,hp,hg⟩
 have S1:=Lib.hid (S0.out.newRd hr hb hp hg)
 clear S0 hr hb hp hg
 go_wp2_with fail
 refine (St.readNums (O:=[(w.heap.size+1+1,#[.int .i64 0],3),(w.heap.size+1,#[.int .i64 0,.int .i64 0,.int .i64 0,.int .i64 0,.int .i64 0,.int .i64 0],41),(w.heap.size,#[.int .i64 0,.int .i64 0,.int .i64 0,.int .i64 0,.int .i64 0,.int .i64 0],41)]) (L:=[]) S1.out (by omega) [(0,0),(1,1),(1,2),(1,3),(1,4),(1,5)] ?_ w1.heap.size 6 rfl rfl (by simp) _ _ rfl).mono ?_
 ·intro q hq
  simp only [List.mem_cons,List.not_mem_nil,or_false] at hq
  rcases hq with rfl | rfl | rfl | rfl | rfl | rfl<;>exact ⟨_,_,rfl,rfl⟩
 rintro e w2 ⟨rfl,hS⟩
 have S2:Hid (St w w2 [thRd p g rr rb,thObj (w.heap.size+1+1) (.cells #[.int .i64 (n0:Nat)] 3 (0,0)),thObj (w.heap.size+1) (.cells #[.int .i64 0,.int .i64 (n1:Nat),.int .i64 (n2:Nat),.int .i64 (n3:Nat),.int .i64 (n4:Nat),.int .i64 (n5:Nat)] 41 (0,0)),thObj w.heap.size (.cells #[.int .i64 0,.int .i64 0,.int .i64 0,.int .i64 0,.int .i64 0,.int .i64 0] 41 (0,0))]):=by
  rw [←HI.out.v0,←HI.out.v1,←HI.out.v2,←HI.out.v3,←HI.out.v4,←HI.out.v5,←HI.out.sr,←HI.out.sb]
  exact hS
 clear hS S1
 obtain ⟨hl1,hc1,hf1⟩:=S2.out.cellsN 1 rfl
 obtain ⟨hl2,hc2,hf2⟩:=S2.out.cellsN 2 rfl
 go_wp2_with fail
 obtain ⟨w3,hw3⟩:∃ w3,w3=w2.setCell ⟨w.heap.size+1,0,none⟩ (.int .i64 (n0:Nat)):=⟨_,rfl⟩
 have S3:Hid (St w w3 [thRd p g rr rb,thObj (w.heap.size+1) (.cells #[.int .i64 (n0:Nat),.int .i64 (n1:Nat),.int .i64 (n2:Nat),.int .i64 (n3:Nat),.int .i64 (n4:Nat),.int .i64 (n5:Nat)] 41 (0,0)),thObj (w.heap.size+1+1) (.cells #[.int .i64 (n0:Nat)] 3 (0,0)),thObj w.heap.size (.cells #[.int .i64 0,.int .i64 0,.int .i64 0,.int .i64 0,.int .i64 0,.int .i64 0] 41 (0,0))]):=by
  rw [hw3];exact ((S2.out.pull (A:=[_,_])).setObj 0 (.int .i64 (n0:Nat))).pull (A:=[_])
 rw [←hw3]
 clear S2 hl1 hc1 hf1 hl2 hc2 hf2 hw3
 have hwh:=whole_any p g rr rb w3 S3.out.head (by have:=HI.out.len;omega)
 obtain ⟨hl0,hc0,hf0⟩:=S3.out.cellsN 3 rfl
 obtain ⟨hl1,hc1,hf1⟩:=S3.out.cellsN 1 rfl
 have hb3:=S3.out.b
 cases hz:(!rb&&rr.isEmpty) with
 | false =>
  have HGf:Hid (goodP l=false):=by rw [HI.out.good,hz];rfl
  rw [hz] at hwh
  have Hwh:=Lib.hid hwh
  clear hz hwh
  refine Hwh.out.mono ?_
  rintro e w4 ⟨rfl,rfl⟩
  (go_wp2_with fail);exact bodyPost_ret (v:=.tuple #[.agg #[.int .i64 0,.int .i64 0,.int .i64 0,.int .i64 0,.int .i64 0,.int .i64 0],.int .i64 3]) (by simp only [results,Tryz.results87];go_simp) rfl ⟨by rw [(repR_no HGf.out).1,(repR_no HGf.out).2];rfl,bg⟩
 | true =>
  have HGz:Hid (goodP l=mayR ⟨n0,n1,⟨n2,n3,n4,n5⟩⟩):=by rw [HI.out.good,hz,Bool.true_and];rfl
  rw [hz] at hwh
  have Hwh:=Lib.hid hwh
  clear hz hwh
  obtain ⟨z,hz⟩:∃ z,mayR ⟨n0,n1,⟨n2,n3,n4,n5⟩⟩=z:=⟨_,rfl⟩
  have hmy:=fun w=>qop.mayReply_any ⟨n0,n1,⟨n2,n3,n4,n5⟩⟩ w z hz
  simp only at hmy
  have Hmy:=Lib.hid hmy
  rw [hz] at HGz
  clear hmy hz
  refine Hwh.out.mono ?_
  rintro e w4 ⟨rfl,rfl⟩
  go_wp2_with fail
  refine (Hmy.out _).mono ?_
  rintro e w5 ⟨rfl,hb⟩
  have S4:=Lib.hid (S3.out.grow hb)
  clear hb hl0 hc0 hf0 hl1 hc1 hf1 hb3 S3
  obtain ⟨hl0,hc0,hf0⟩:=S4.out.cellsN 3 rfl
  obtain ⟨hl1,hc1,hf1⟩:=S4.out.cellsN 1 rfl
  have hb5:=S4.out.b
  cases z with
  | false =>
   have HGf:Hid (goodP l=false):=HGz
   (go_wp2_with fail);exact bodyPost_ret (v:=.tuple #[.agg #[.int .i64 0,.int .i64 0,.int .i64 0,.int .i64 0,.int .i64 0,.int .i64 0],.int .i64 3]) (by simp only [results,Tryz.results87];go_simp) rfl ⟨by rw [(repR_no HGf.out).1,(repR_no HGf.out).2];rfl,bg⟩
  | true =>
   have HGt:Hid (goodP l=true):=HGz
   (go_wp2_with fail);exact bodyPost_ret (v:=.tuple #[.agg #[.int .i64 (n0:Nat),.int .i64 (n1:Nat),.int .i64 (n2:Nat),.int .i64 (n3:Nat),.int .i64 (n4:Nat),.int .i64 (n5:Nat)],.int .i64 0]) (by simp only [results,Tryz.results87];go_simp) rfl ⟨by rw [(repR_yes HGt.out).1,(repR_yes HGt.out).2,HI.out.rp],bg⟩
structure RIn (l:List UInt8) (n0 n1 n2 n3 n4 n5:Nat) (rr:List UInt8) (rb:Bool) (r1:List UInt8) (b1:Bool) (r2:List UInt8) (b2:Bool) (r3:List UInt8) (b3:Bool) (r4:List UInt8) (b4:Bool) (r5:List UInt8) (b5:Bool):Prop where
 na:numT l false=(n0,r1,b1)
 nb:numT r1 b1=(n1,r2,b2)
 nc:numT r2 b2=(n2,r3,b3)
 nd:numT r3 b3=(n3,r4,b4)
 ne:numT r4 b4=(n4,r5,b5)
 nf:numT r5 b5=(n5,rr,rb)
 la:r1.length≤l.length
 lb:r2.length≤l.length
end Go.Proofs.YtogamdaomdoapaaGreat