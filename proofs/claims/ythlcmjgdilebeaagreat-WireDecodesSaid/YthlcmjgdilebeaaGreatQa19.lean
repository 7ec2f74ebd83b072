/- Texts put together: ORd. -/
import Derived.Test.YthlcmjgdilebeaaGreatQa16
import Derived.Test.YthlcmjgdilebeaaGreatQa18
namespace Go.Proofs.YthlcmjgdilebeaaGreat.O
open Go.RowKit
set_option maxRecDepth 20000
theorem ro_bad {W w:World} {p g:Nat} {rest:List UInt8} {bad:Bool} (h:(thRO W p g rest bad).T w):w.cell? ⟨p,1,none⟩=some (.bool bad)∧p<w.heap.size:=by
 obtain ⟨-,ao,cap,h1,-⟩:=h
 exact ⟨(cells_of_obj h1).1 1,lt_of_block h1⟩
theorem readBytesK {W w:World} {L:List Th} {p g:Nat} {rest:List UInt8} {bad:Bool} (h:St W w (thRO W p g rest bad::L)) (hm:rest.length≤140737488351232) :
 Calls Tryz.prog 47 #[.pointer (some ⟨p,0,none⟩)] w fun e w'=>∃ ao cap,e=.returned (.slice ao (tookOf rest bad).1.length cap)∧OwnB w' w.heap.size ao cap (tookOf rest bad).1∧St W w' (thRO W p g (tookOf rest bad).2.1 (tookOf rest bad).2.2::L)∧Keeps w w' (fun x=>x=p):=by
 refine (rrbytes_any p g rest bad w (RO.rr h.head h.b) hm).mono ?_
 rintro e w' ⟨x,r',b',ao,cap,ht,rfl,ho,hr,hk⟩
 rw [←ht]
 exact ⟨ao,cap,rfl,ho,h.stepRO hr hk (tookOf_le ht).2,hk⟩
theorem own_past {w w':World} {base p:Nat} {ao:Option Addr} {cap:Nat} {l:List UInt8} (h:OwnB w base ao cap l) (k:Keeps w w' (fun x=>x=p)) (hp:p<base):OwnB w' base ao cap l :=
 own_keeps h k fun g hg e=>by have:=(own_lt h g hg).2;omega
theorem rmay_zero (ao:Option Addr) (zc:Nat) (ver nx:Int) (w:World) :
 Calls Tryz.prog 59 #[.agg #[.int .i64 ver,.int .i64 nx,.slice ao ([]:List Zn).length zc]] w fun e w'=>e=.returned (.bool false)∧Below w.heap.size w w':=by
 rw [List.length_nil]
 rcases Bool.eq_false_or_eq_true (decide (ver<1)) with t1 | t1
 ·(go_enter Tryz.func59,Tryz.ntmps59;(go_wp2_with fail);go_ret;exact ⟨rfl,bg⟩)
 rcases Bool.eq_false_or_eq_true (decide (1099511627776<ver)) with t2 | t2
 ·(go_enter Tryz.func59,Tryz.ntmps59;(go_wp2_with fail);go_ret;exact ⟨rfl,bg⟩)
 rcases Bool.eq_false_or_eq_true (decide (nx<1)) with t3 | t3
 ·(go_enter Tryz.func59,Tryz.ntmps59;(go_wp2_with fail);go_ret;exact ⟨rfl,bg⟩)
 rcases Bool.eq_false_or_eq_true (decide (1099511627776<nx)) with t4 | t4
 ·(go_enter Tryz.func59,Tryz.ntmps59;(go_wp2_with fail);go_ret;exact ⟨rfl,bg⟩)
 go_enter Tryz.func59,Tryz.ntmps59
 go_wp2_with fail
 (refine wp_name fun wa hwa=>?_;have wa_s0:=sg w.heap.size hwa;obtain wa_c0:=kk1 hwa w.heap.size 2 (.slice ao 0 zc);have wa_b:Below w.heap.size w wa:=(by rw [hwa];exact bg);clear hwa)
 go_loopw [3,4] (fun s3 s4 wr=>s3=.slice none 0 0∧s4=.int .i64 0∧wr=wa) (fun _ _ _=>0)
 case atStart=>exact ⟨rfl,rfl,rfl⟩
 case round =>
  obtain ⟨rfl,rfl,rfl⟩:=hrel
  go_wp2_with fail
  refine (ref_all_none none 0 wr).mono ?_
  rintro e w2 ⟨rfl,hb⟩
  have hb2:=wa_b.trans (hb.mono wa_b.size)
  go_wp2_with fail
  go_ret
  exact ⟨rfl,hb2⟩
theorem rmay_all (ao:Option Addr) (zc:Nat) (m:Mp) (w:World) (hm:m.zs.length≤1000) (h:ZsAt w ao m.zs) :
 Calls Tryz.prog 59 #[.agg #[.int .i64 m.ver,.int .i64 m.next,.slice ao m.zs.length zc]] w fun e w'=>e=.returned (.bool (mayM m))∧Below w.heap.size w w':=by
 by_cases h1:0<m.zs.length
 ·obtain ⟨g,o,rfl,hz⟩:=h h1
  exact may_any hz hm
 ·have h0:m.zs=[]:=List.length_eq_zero_iff.1 (by omega)
  have hf:mayM m=false:=by
   unfold mayM
   rw [h0]
   have:rAll (List.map spz [])=false:=rfl
   rw [this,Bool.and_false,Bool.and_false]
  rw [hf,h0]
  exact rmay_zero ao zc m.ver m.next w
theorem num_len {r x:List UInt8} {b y:Bool} {d:Nat} (h:numT r b=(d,x,y)):x.length≤r.length:=by have:=(numT_le r b).1;rw [h] at this;exact this
theorem four_is {r x1 x2 x3 x4:List UInt8} {b y1 y2 y3 y4:Bool} {d1 d2 d3 d4:Nat} (h1:numT r b=(d1,x1,y1)) (h2:numT x1 y1=(d2,x2,y2)) (h3:numT x2 y2=(d3,x3,y3)) (h4:numT x3 y3=(d4,x4,y4)):rdVal r b 0=d1∧rdVal r b 1=d2∧rdVal r b 2=d3∧rdVal r b 3=d4∧rdSt r b 4=(x4,y4):=by
 have s1:rdSt r b 1=(x1,y1):=by rw [rdSt,rz];dsimp only;rw [h1]
 have s2:rdSt r b 2=(x2,y2):=by rw [rdSt,s1];dsimp only;rw [h2]
 have s3:rdSt r b 3=(x3,y3):=by rw [rdSt,s2];dsimp only;rw [h3]
 have s4:rdSt r b 4=(x4,y4):=by rw [rdSt,s3];dsimp only;rw [h4]
 refine ⟨?_,?_,?_,?_,s4⟩
 ·unfold rdVal;rw [rz];dsimp only;rw [h1]
 ·unfold rdVal;rw [s1];dsimp only;rw [h2]
 ·unfold rdVal;rw [s2];dsimp only;rw [h3]
 ·unfold rdVal;rw [s3];dsimp only;rw [h4]
set_option maxHeartbeats 4000000 in
theorem rdecM_any (ao:Option Addr) (cap:Nat) (l:List UInt8) (w:World) (h0:ao=none→l.length=0∧cap=0) (hlc:l.length≤cap) (hcm:cap≤9223372036854775807) (ha:BAt w ao l) (hm:l.length≤2000) :
 Calls Tryz.prog 91 #[.slice ao l.length cap] w (DecMPost w l (.int .i64 0) (.int .i64 3)):=by
 have Ha:=Lib.hid ha
 have H0:=Lib.hid h0
 obtain ⟨i0,hii,hz0,hz1,hz2⟩:=info_parts zoneInfoO
 clear ha h0
 go_enter Tryz.func91,Tryz.ntmps91
 go_wp2_with fail
 have s0:=(St.start w).objN (.cells #[.int .i64 0,.int .i64 0,.slice none 0 0] 35) w.heap.size rfl
 obtain ⟨g,s1⟩:=s0.newRO (w.heap.size+1) (by simp) ao cap l hlc hcm H0.out Ha.out
 obtain ⟨p,hp⟩:∃ p,p=w.heap.size+1:=⟨_,rfl⟩
 rw [←hp] at s1 ⊢
 have S1:Hid (St w _ [thRO w p g l false,thObj w.heap.size (.cells #[.int .i64 0,.int .i64 0,.slice none 0 0] 35)]):=Lib.hid s1
 clear s0 s1
 have e1:=St.readNumO S1.out (by omega)
 rw [show numT l false=(rdVal l false 0,(rdSt l false 1).1,(rdSt l false 1).2) from rd_step l false 0 1 rfl] at e1
 refine e1.mono ?_
 rintro e w1 ⟨rfl,hS⟩
 have S2:=Lib.hid hS
 clear hS S1 e1 hp
 go_wp2_with fail
 have hl1:=rdSt_le l false 1
 have e1:=St.readNumO S2.out (by omega)
 rw [rd_step l false 1 2 rfl] at e1
 refine e1.mono ?_
 rintro e w2 ⟨rfl,hS⟩
 obtain ⟨ver,hver⟩:∃ v,v=rdVal l false 0:=⟨_,rfl⟩
 obtain ⟨nx,hnx⟩:∃ v,v=rdVal l false 1:=⟨_,rfl⟩
 have S3:=Lib.hid hS
 dsimp only at S3 ⊢
 rw [←hver,←hnx]
 have Hver:=Lib.hid hver
 have Hnx:=Lib.hid hnx
 clear hS S2 hver hnx hl1 e1
 go_wp2_with fail
 obtain ⟨M,hM⟩:∃ M,M=w2.heap.size:=⟨_,rfl⟩
 have hMw:w.heap.size<M:=by rw [hM];exact (S3.out.cellsN 1 rfl).1
 rw [←hM]
 have S4:Hid (St w _ [thRO w p g (rdSt l false 2).1 (rdSt l false 2).2,thObj M (.cells #[.int .i64 (ver:Nat),.int .i64 (nx:Nat),.slice none 0 0] 35),thObj w.heap.size (.cells #[.int .i64 0,.int .i64 0,.slice none 0 0] 35)]):=Lib.hid ((S3.out.objN (.cells #[.int .i64 (ver:Nat),.int .i64 (nx:Nat),.slice none 0 0] 35) M hM).pull (A:=[_]))
 have hl2:=rdSt_le l false 2
 have hcall:=St.readNumO S4.out (by omega)
 rw [rd_step l false 2 3 rfl] at hcall
 refine hcall.mono ?_
 rintro e w3 ⟨rfl,hS⟩
 have S3:=Lib.hid hS
 have HI:=Lib.hid (RdI.start l)
 obtain ⟨r,b,hrb⟩:∃ r b,rdSt l false 3=(r,b):=⟨_,_,rfl⟩
 obtain ⟨j,hj⟩:∃ j,j=rdVal l false 2:=⟨_,rfl⟩
 dsimp only at S3 ⊢
 rw [hrb] at S3 HI
 rw [←hj] at HI ⊢
 dsimp only at S3 HI
 have hjl:j≤4611686018427387904:=by rw [hj];exact rdVal_le _ _ _
 clear hcall hS S4 hl2 hrb hj hM
 go_wp2_with fail
 obtain ⟨N,hN⟩:∃ N,N=j:=⟨_,rfl⟩
 go_loopw [7] (fun s wr=>∃ (i j:Nat) (r:List UInt8) (b:Bool) (L:List Zn) (zo:Option Addr) (zc:Nat),s=.int .i64 i∧i+j=N∧Hid (RdI l j L r b)∧Hid (St w wr [thRO w p g r b,thObj M (.cells #[.int .i64 (ver:Nat),.int .i64 (nx:Nat),.slice zo L.length zc] 35),thRow w.heap.size 87 9 zo L.length zc (znR L),thObj w.heap.size (.cells #[.int .i64 0,.int .i64 0,.slice none 0 0] 35)])) (fun s _=>N - (intOf s).toNat)
 case atStart=>exact ⟨0,j,r,b,[],none,0,rfl,by omega,HI,Lib.hid ((S3.out.nilRow _ _).perm (by refine (List.Perm.swap _ _ _).trans (List.Perm.cons _ (List.Perm.swap _ _ _))))⟩
 case round =>
  clear S3 HI
  have hNl:N≤4611686018427387904:=by omega
  rw [←hN]
  clear hN hjl
  obtain ⟨i,j,r,b,L,zo,zc,rfl,hij,HI,S3⟩:=hrel
  obtain ⟨b1,b2⟩:=ro_bad S3.out.head
  by_cases hgo:0<j∧b=false
  ·obtain ⟨hj0,rfl⟩:=hgo
   have hji:(i:Int)<N:=by omega
   obtain ⟨j,rfl⟩:∃ k,j=k+1:=⟨j - 1,by omega⟩
   obtain ⟨zid,fr,to,owner,epoch,pend,tt,key,nw,r1,c1,r2,c2,r3,c3,r4,c4,r5,c5,r6,c6,hz⟩:=zis r false
   have Hz:=Lib.hid hz
   have hrl:r.length≤2000:=by have:=HI.out.left;omega
   clear hz
   go_wp2_with fail
   have hcall:=St.readNumO S3.out (by omega)
   rw [Hz.out.e1] at hcall
   refine hcall.mono ?_
   rintro e w4 ⟨rfl,hS⟩
   have S4:=Lib.hid hS
   dsimp only at S4 ⊢
   clear hcall hS S3 b1 b2
   go_wp2_with fail
   refine wp_name fun wb hwb=>?_
   obtain ⟨bx,hbx⟩:∃ bx,bx=w4.heap.size:=⟨_,rfl⟩
   have hbl:M<bx:=by rw [hbx];exact (S4.out.cellsN 1 rfl).1
   have S5:Hid (St w wb.drew [thRO w p g r1 c1,thObj bx (.cells #[.int .i64 (zid:Nat),.string ⟨#[]⟩,.string ⟨#[]⟩,.int .i64 0,.int .i64 0,.int .i64 0,.int .i64 0,.string ⟨#[]⟩,.int .i64 0] 87),thObj M (.cells #[.int .i64 (ver:Nat),.int .i64 (nx:Nat),.slice zo L.length zc] 35),thRow w.heap.size 87 9 zo L.length zc (znR L),thObj w.heap.size (.cells #[.int .i64 0,.int .i64 0,.slice none 0 0] 35)]):=by
    rw [hwb]
    exact Lib.hid (((S4.out.objN (.cells #[.int .i64 (zid:Nat),.string ⟨#[]⟩,.string ⟨#[]⟩,.int .i64 0,.int .i64 0,.int .i64 0,.int .i64 0,.string ⟨#[]⟩,.int .i64 0] 87) bx hbx).pull (A:=[_])).grow (Below.refl _ _).drew)
   rw [←hbx]
   clear S4 hbx hwb
   refine wp_region_noPanic ?_
   refine wp_region_held (S:=fun _=>True) (by kernel_rfl) ?_
   change wpAnyH _ _ _ _ _ _ _ _ (World.drew _)
   (refine takeD (i:=0) (v:=?v0x) 34 rfl rfl (by kernel_rfl) (by kernel_rfl) (by kernel_rfl) (fun _ _ _ h=>h) (Or.inl ⟨by rfl,?hy0x⟩) trivial ?rest0x;(case hy0x=>(intro w _;go_simp;(try with_reducible rfl)));(try simp only [Act.put,List.setIfInBounds_toArray,List.set_cons_zero,List.set_cons_succ]))
   (refine takeD (i:=3) (v:=?v3x) 37 rfl rfl (by kernel_rfl) (by kernel_rfl) (by kernel_rfl) (fun _ _ _ h=>h) (Or.inl ⟨by rfl,?hy3x⟩) trivial ?rest3x;(case hy3x=>(intro w _;go_simp;(try with_reducible rfl)));(try simp only [Act.put,List.setIfInBounds_toArray,List.set_cons_zero,List.set_cons_succ]))
   have hcall:=readBytesK S5.out (by have:=Hz.out.l1;omega)
   rw [Hz.out.e2] at hcall
   (refine wpAnyH_all (rs:=[1]) (by kernel_rfl) (by simp) (fun i' hi'=>?_);(obtain rfl:i'=1:=by simpa using hi');clear hi';(refine wpOp_step rfl (fun K' hK'=>?_)))
   go_simp
   refine hcall.mono ?_
   rintro e w5 ⟨yo,yc,rfl,ho,hS,-⟩
   have hpb:p<wb.drew.heap.size:=(ro_bad S5.out.head).2
   have S6:=Lib.hid hS
   have Ho:=Lib.hid ho
   dsimp only at S6 Ho ⊢
   have hcv:=conv_str Ho.out.at yc
   refine hK' _ _ ⟨trivial,?_⟩
   clear hK' K' hcall hS ho S5
   try simp only [Act.put,List.setIfInBounds_toArray,List.set_cons_zero,List.set_cons_succ]
   have hcall:=readBytesK S6.out (by have:=Hz.out.l2;omega)
   rw [Hz.out.e3] at hcall
   refine wpAnyH_all (rs:=[2,4]) (by kernel_rfl) (by simp) (fun i' hi'=>?_)
   have hi2:i'=2∨i'=4:=by simpa using hi'
   clear hi'
   rcases hi2 with rfl | rfl
   case' inl =>
    refine wpOp_step rfl (fun K' hK'=>?_)
    go_simp
    refine hK' _ _ ⟨trivial,?_⟩
    clear hK' K' hcv
    try simp only [Act.put,List.setIfInBounds_toArray,List.set_cons_zero,List.set_cons_succ]
    (refine wpAnyH_all (rs:=[4]) (by kernel_rfl) (by simp) (fun i' hi'=>?_);(obtain rfl:i'=4:=by simpa using hi');clear hi';(refine wpOp_step rfl (fun K' hK'=>?_)))
    go_simp
    refine hcall.mono ?_
    rintro e w6 ⟨xo,xc,rfl,ho,hS,-⟩
    have S7:=Lib.hid hS
    have Ho2:=Lib.hid ho
    dsimp only at S7 Ho2 ⊢
    have hcv:=conv_str Ho2.out.at xc
    refine hK' _ _ ⟨trivial,?_⟩
    clear hK' K' hcall hS ho S6
    try simp only [Act.put,List.setIfInBounds_toArray,List.set_cons_zero,List.set_cons_succ]
    (refine wpAnyH_all (rs:=[5]) (by kernel_rfl) (by simp) (fun i' hi'=>?_);(obtain rfl:i'=5:=by simpa using hi');clear hi';(refine wpOp_step rfl (fun K' hK'=>?_)))
    go_simp
    refine hK' _ _ ⟨trivial,?_⟩
    clear hK' K' hcv
    try simp only [Act.put,List.setIfInBounds_toArray,List.set_cons_zero,List.set_cons_succ]
   case' inr =>
    refine wpOp_step rfl (fun K' hK'=>?_)
    go_simp
    refine hcall.mono ?_
    rintro e w6 ⟨xo,xc,rfl,ho,hS,hk⟩
    have S7:=Lib.hid hS
    have Ho2:=Lib.hid ho
    dsimp only at S7 Ho2 ⊢
    have hcv2:=conv_str Ho2.out.at xc
    have hcv1:=conv_str (own_past Ho.out hk hpb).at yc
    refine hK' _ _ ⟨trivial,?_⟩
    clear hK' K' hcall hS ho S6 hk hcv
    try simp only [Act.put,List.setIfInBounds_toArray,List.set_cons_zero,List.set_cons_succ]
    refine wpAnyH_all (rs:=[2,5]) (by kernel_rfl) (by simp) (fun i' hi'=>?_)
    have hi2:i'=2∨i'=5:=by simpa using hi'
    clear hi'
    rcases hi2 with rfl | rfl
   case' inr.inl =>
    refine wpOp_step rfl (fun K' hK'=>?_)
    go_simp
    refine hK' _ _ ⟨trivial,?_⟩
    clear hK' K'
    try simp only [Act.put,List.setIfInBounds_toArray,List.set_cons_zero,List.set_cons_succ]
    (refine wpAnyH_all (rs:=[5]) (by kernel_rfl) (by simp) (fun i' hi'=>?_);(obtain rfl:i'=5:=by simpa using hi');clear hi';(refine wpOp_step rfl (fun K' hK'=>?_)))
    go_simp
    refine hK' _ _ ⟨trivial,?_⟩
    clear hK' K'
    try simp only [Act.put,List.setIfInBounds_toArray,List.set_cons_zero,List.set_cons_succ]
   case' inr.inr =>
    refine wpOp_step rfl (fun K' hK'=>?_)
    go_simp
    refine hK' _ _ ⟨trivial,?_⟩
    clear hK' K'
    try simp only [Act.put,List.setIfInBounds_toArray,List.set_cons_zero,List.set_cons_succ]
    (refine wpAnyH_all (rs:=[2]) (by kernel_rfl) (by simp) (fun i' hi'=>?_);(obtain rfl:i'=2:=by simpa using hi');clear hi';(refine wpOp_step rfl (fun K' hK'=>?_)))
    go_simp
    refine hK' _ _ ⟨trivial,?_⟩
    clear hK' K'
    try simp only [Act.put,List.setIfInBounds_toArray,List.set_cons_zero,List.set_cons_succ]
   all_goals
    obtain ⟨z1,z2,z3⟩:=S7.out.cellsN 1 rfl
    have S8:Hid (St w ((w6.setCell ⟨bx,1,none⟩ (.string ⟨fr.toArray⟩)).setCell ⟨bx,2,none⟩ (.string ⟨to.toArray⟩)) [thRO w p g r3 c3,thObj bx (.cells #[.int .i64 (zid:Nat),.string ⟨fr.toArray⟩,.string ⟨to.toArray⟩,.int .i64 0,.int .i64 0,.int .i64 0,.int .i64 0,.string ⟨#[]⟩,.int .i64 0] 87),thObj M (.cells #[.int .i64 (ver:Nat),.int .i64 (nx:Nat),.slice zo L.length zc] 35),thRow w.heap.size 87 9 zo L.length zc (znR L),thObj w.heap.size (.cells #[.int .i64 0,.int .i64 0,.slice none 0 0] 35)]):=Lib.hid ((((S7.out.pull (A:=[_])).setObj 1 (.string ⟨fr.toArray⟩)).setObj 2 (.string ⟨to.toArray⟩)).pull (A:=[_]))
    (refine wpAnyH_all (rs:=[6]) (by kernel_rfl) (by simp) (fun i' hi'=>?_);(obtain rfl:i'=6:=by simpa using hi');clear hi';(refine wpOp_step rfl (fun K' hK'=>?_)))
    go_simp
    refine hK' _ _ ⟨trivial,?_⟩
    clear hK' K'
    try simp only [Act.put,List.setIfInBounds_toArray,List.set_cons_zero,List.set_cons_succ]
    (refine wpAnyH_all (rs:=[7]) (by kernel_rfl) (by simp) (fun i' hi'=>?_);(obtain rfl:i'=7:=by simpa using hi');clear hi';(refine wpOp_step rfl (fun K' hK'=>?_)))
    go_simp
    refine hK' _ _ ⟨trivial,?_⟩
    clear hK' K'
    try simp only [Act.put,List.setIfInBounds_toArray,List.set_cons_zero,List.set_cons_succ]
    (refine wpAnyH_all (rs:=[8]) (by kernel_rfl) (by simp) (fun i' hi'=>?_);(obtain rfl:i'=8:=by simpa using hi');clear hi';(refine wpOp_step rfl (fun K' hK'=>?_)))
    go_simp
    refine hK' _ _ ⟨trivial,?_⟩
    clear hK' K'
    refine wpAnyH_done (by kernel_rfl) ?_ _
    refine NoPanic.normal ?_
    clear S7 z1 z2 z3 Ho Ho2
    go_wp2_with fail
    obtain ⟨d1,x1,y1,q1⟩:∃ d x y,numT r3 c3=(d,x,y):=⟨_,_,_,eta3 _⟩
    obtain ⟨d2,x2,y2,q2⟩:∃ d x y,numT x1 y1=(d,x,y):=⟨_,_,_,eta3 _⟩
    obtain ⟨d3,x3,y3,q3⟩:∃ d x y,numT x2 y2=(d,x,y):=⟨_,_,_,eta3 _⟩
    obtain ⟨d4,x4,y4,q4⟩:∃ d x y,numT x3 y3=(d,x,y):=⟨_,_,_,eta3 _⟩
    have HF:=Lib.hid (four_is q1 q2 q3 q4)
    have Hl1:=Lib.hid (num_len q1)
    have Hl2:=Lib.hid (num_len q2)
    have Hl3:=Lib.hid (num_len q3)
    have Hq1:=Lib.hid q1
    have Hq2:=Lib.hid q2
    have Hq3:=Lib.hid q3
    have Hq4:=Lib.hid q4
    clear q1 q2 q3 q4
    have hcall:=St.readNumO S8.out (by have:=Hz.out.l3;omega)
    rw [Hq1.out] at hcall
    refine hcall.mono ?_
    rintro e v1 ⟨rfl,hS⟩
    have T1:=Lib.hid hS
    dsimp only at T1 ⊢
    clear hcall hS S8
    go_wp2_with fail
    have hcall:=St.readNumO T1.out (by have:=Hz.out.l3;have:=Hl1.out;omega)
    rw [Hq2.out] at hcall
    refine hcall.mono ?_
    rintro e v2 ⟨rfl,hS⟩
    have T2:=Lib.hid hS
    dsimp only at T2 ⊢
    clear hcall hS T1
    go_wp2_with fail
    have hcall:=St.readNumO T2.out (by have:=Hz.out.l3;have:=Hl1.out;have:=Hl2.out;omega)
    rw [Hq3.out] at hcall
    refine hcall.mono ?_
    rintro e v3 ⟨rfl,hS⟩
    have T3:=Lib.hid hS
    dsimp only at T3 ⊢
    clear hcall hS T2
    go_wp2_with fail
    have hcall:=St.readNumO T3.out (by have:=Hz.out.l3;have:=Hl1.out;have:=Hl2.out;have:=Hl3.out;omega)
    rw [Hq4.out] at hcall
    refine hcall.mono ?_
    rintro e v4 ⟨rfl,hS⟩
    have T4:=Lib.hid hS
    dsimp only at T4 ⊢
    clear hcall hS T3
    obtain ⟨z1,z2,z3⟩:=T4.out.cellsN 1 rfl
    have S9:Hid (St w ((((v4.setCell ⟨bx,3,none⟩ (.int .i64 (d1:Nat))).setCell ⟨bx,4,none⟩ (.int .i64 (d2:Nat))).setCell ⟨bx,5,none⟩ (.int .i64 (d3:Nat))).setCell ⟨bx,6,none⟩ (.int .i64 (d4:Nat))) [thRO w p g r4 c4,thObj bx (.cells #[.int .i64 (zid:Nat),.string ⟨fr.toArray⟩,.string ⟨to.toArray⟩,.int .i64 (owner:Nat),.int .i64 (epoch:Nat),.int .i64 (pend:Nat),.int .i64 (tt:Nat),.string ⟨#[]⟩,.int .i64 0] 87),thObj M (.cells #[.int .i64 (ver:Nat),.int .i64 (nx:Nat),.slice zo L.length zc] 35),thRow w.heap.size 87 9 zo L.length zc (znR L),thObj w.heap.size (.cells #[.int .i64 0,.int .i64 0,.slice none 0 0] 35)]):=by
     have e:=HF.out
     rw [Hz.out.e4,←Hz.out.v0,←Hz.out.v1,←Hz.out.v2,←Hz.out.v3] at e
     obtain ⟨e1,e2,e3,e4,e5⟩:=e
     rw [Prod.mk.injEq] at e5
     rw [e1,e2,e3,e4,e5.1,e5.2]
     exact Lib.hid ((((((T4.out.pull (A:=[_])).setObj 3 (.int .i64 (d1:Nat))).setObj 4 (.int .i64 (d2:Nat))).setObj 5 (.int .i64 (d3:Nat))).setObj 6 (.int .i64 (d4:Nat))).pull (A:=[_]))
    clear T4
    go_wp2_with fail
    clear z1 z2 z3 HF Hl1 Hl2 Hl3 Hq1 Hq2 Hq3 Hq4
    have hcall:=readBytesK S9.out (by have:=Hz.out.l4;omega)
    rw [Hz.out.e5] at hcall
    refine hcall.mono ?_
    rintro e w9 ⟨zo2,zc2,rfl,ho,hS,-⟩
    have T:=Lib.hid hS
    obtain ⟨z1,z2,z3⟩:=T.out.cellsN 1 rfl
    have hcv:=conv_str ho.at zc2
    clear hcall hS S9 ho
    go_wp2_with fail
    have SA:Hid (St w (w9.setCell ⟨bx,7,none⟩ (.string ⟨key.toArray⟩)) [thRO w p g r5 c5,thObj bx (.cells #[.int .i64 (zid:Nat),.string ⟨fr.toArray⟩,.string ⟨to.toArray⟩,.int .i64 (owner:Nat),.int .i64 (epoch:Nat),.int .i64 (pend:Nat),.int .i64 (tt:Nat),.string ⟨key.toArray⟩,.int .i64 0] 87),thObj M (.cells #[.int .i64 (ver:Nat),.int .i64 (nx:Nat),.slice zo L.length zc] 35),thRow w.heap.size 87 9 zo L.length zc (znR L),thObj w.heap.size (.cells #[.int .i64 0,.int .i64 0,.slice none 0 0] 35)]):=Lib.hid (((T.out.pull (A:=[_])).setObj 7 (.string ⟨key.toArray⟩)).pull (A:=[_]))
    clear T z1 z2 z3 hcv
    have hcall:=St.readNumO SA.out (by have:=Hz.out.l5;omega)
    rw [Hz.out.e6] at hcall
    refine hcall.mono ?_
    rintro e w10 ⟨rfl,hS⟩
    have T:=Lib.hid hS
    obtain ⟨z1,z2,z3⟩:=T.out.cellsN 1 rfl
    clear hcall hS SA
    have SB:Hid (St w (w10.setCell ⟨bx,8,none⟩ (.int .i64 (nw:Nat))) [thRO w p g r6 c6,thObj bx (.cells #[.int .i64 (zid:Nat),.string ⟨fr.toArray⟩,.string ⟨to.toArray⟩,.int .i64 (owner:Nat),.int .i64 (epoch:Nat),.int .i64 (pend:Nat),.int .i64 (tt:Nat),.string ⟨key.toArray⟩,.int .i64 (nw:Nat)] 87),thObj M (.cells #[.int .i64 (ver:Nat),.int .i64 (nx:Nat),.slice zo L.length zc] 35),thRow w.heap.size 87 9 zo L.length zc (znR L),thObj w.heap.size (.cells #[.int .i64 0,.int .i64 0,.slice none 0 0] 35)]):=Lib.hid (((T.out.pull (A:=[_])).setObj 8 (.int .i64 (nw:Nat))).pull (A:=[_]))
    have hrow:(w10.setCell ⟨bx,8,none⟩ (.int .i64 (nw:Nat))).ownsRow w.heap.size 87 9 (.slice zo L.length zc) L.length (znR L):=SB.out.mem (t:=thRow w.heap.size 87 9 zo L.length zc (znR L)) (by simp)
    obtain ⟨m1,m2,m3⟩:=T.out.cellsN 2 rfl
    obtain ⟨z,hzz⟩:∃ z:Zn,z=⟨zid,txt fr,txt to,owner,epoch,pend,tt,txt key,nw⟩:=⟨_,rfl⟩
    have Hzz:=Lib.hid hzz
    clear hzz
    have hne:¬M=bx:=by omega
    have hne2:¬bx=M:=by omega
    have hLl:L.length≤2000:=by have:=HI.out.len;omega
    have hwz:=SB.out.b.size
    clear T
    go_wp2_with (at_builtin;go_must (refine wpList_append_foot _ rfl (.tmp 62) (.tmp 64) 33 rfl w.heap.size 87 i0 (.agg zz9) 9 96 Tryz.underlying33 hii hz0 hz1 hz2 rfl (by decide) zo L.length zc _ rfl (hrow.alloc _) (some ⟨w10.heap.size,0,none⟩) 1 1 (znV z) rfl (fun h=>by cases h) rfl ?_ (znV_one z) (by unfold maxLen;omega) (by omega) (by simp [World.setCell] at hwz ⊢;omega) ?_))
    ·rw [Hzz.out];exact news_ad _ _ (by simp [World.setCell]) _ _
    intro co c' w11 hown hgrow hco
    have SD:Hid (St w w11 [thRow w.heap.size 87 9 co (L.length+1) c' (znR L++znV z),thObj w10.heap.size (.cells #[.int .i64 (zid:Nat),.string ⟨fr.toArray⟩,.string ⟨to.toArray⟩,.int .i64 (owner:Nat),.int .i64 (epoch:Nat),.int .i64 (pend:Nat),.int .i64 (tt:Nat),.string ⟨key.toArray⟩,.int .i64 (nw:Nat)] 87),thRO w p g r6 c6,thObj bx (.cells #[.int .i64 (zid:Nat),.string ⟨fr.toArray⟩,.string ⟨to.toArray⟩,.int .i64 (owner:Nat),.int .i64 (epoch:Nat),.int .i64 (pend:Nat),.int .i64 (tt:Nat),.string ⟨key.toArray⟩,.int .i64 (nw:Nat)] 87),thObj M (.cells #[.int .i64 (ver:Nat),.int .i64 (nx:Nat),.slice zo L.length zc] 35),thObj w.heap.size (.cells #[.int .i64 0,.int .i64 0,.slice none 0 0] 35)]):=by
     have s1:=SB.out.objN (.cells #[.int .i64 (zid:Nat),.string ⟨fr.toArray⟩,.string ⟨to.toArray⟩,.int .i64 (owner:Nat),.int .i64 (epoch:Nat),.int .i64 (pend:Nat),.int .i64 (tt:Nat),.string ⟨key.toArray⟩,.int .i64 (nw:Nat)] 87) w10.heap.size (by simp [World.setCell])
     exact Lib.hid ((s1.pull (A:=[_,_,_,_])).appendedRow (m:=1) hown hgrow (fun a ha=>(hco a ha).imp id (fun h=>by simp [World.setCell] at h ⊢;omega)))
    obtain ⟨n1,n2,n3⟩:=SD.out.cellsN 4 rfl
    have SC:Hid (St w (w11.setCell ⟨M,2,none⟩ (.slice co (L.length+1) c')) [thRO w p g r6 c6,thObj M (.cells #[.int .i64 (ver:Nat),.int .i64 (nx:Nat),.slice co ((L++[z]).length) c'] 35),thRow w.heap.size 87 9 co (L++[z]).length c' (znR (L++[z])),thObj w.heap.size (.cells #[.int .i64 0,.int .i64 0,.slice none 0 0] 35)]):=by
     have e1:(L++[z]).length=L.length+1:=by simp
     have e2:znR (L++[z])=znR L++znV z:=by rw [znR_append,znR_cons,znR_nil,List.append_nil]
     rw [e1,e2]
     have s1:=(SD.out.pull (A:=[_,_,_,_])).setObj 2 (.slice co (L.length+1) c')
     have s2:=(s1.pull (A:=[_,_])).drop
     have s3:=(s2.pull (A:=[_,_,_])).drop
     exact Lib.hid (s3.pull (A:=[_,_]))
    have HI2:=Lib.hid (HI.out.next Hz.out)
    clear hown hgrow hco SB SD hrow m1 m2 m3 hne hne2 z1 z2 z3
    go_wp2_with fail
    go_roundw
    ·exact ⟨i+1,j,r6,c6,L++[z],co,c',by go_num,by omega,by rw [Hzz.out];exact HI2,SC⟩
    ·simp [intOf];omega
  ·have HD:=Lib.hid (HI.out.done (by
    by_cases h:0<j
    ·exact .inr (by cases b with | true=>rfl | false=>exact absurd ⟨h,rfl⟩ hgo)
    ·exact .inl (by omega)))
   have hrl:r.length≤2000:=by have:=HI.out.left;omega
   have hLl:L.length≤300:=by have:=HI.out.len;omega
   have Hsz:=Lib.hid HI.out.sz
   by_cases hj0:0<j
   case' pos =>
    have hb:b=true:=by cases b with | true=>rfl | false=>exact absurd ⟨hj0,rfl⟩ hgo
    have hji:(i:Int)<N:=by omega
    rw [hb] at b1
    go_wp2_with fail
    clear hb hji
   case' neg =>
    have hji:¬((i:Int)<N):=by omega
    go_wp2_with fail
    clear hji
   all_goals
    clear hgo hj0 b1 b2
    have hwh:=S3.out.wholeO
    have HW:Hid (wholeS (decM l).2=(!b&&r.isEmpty)):=by rw [HD.out];exact Lib.hid rfl
    obtain ⟨q,hq⟩:∃ q,q=(!b&&r.isEmpty):=⟨_,rfl⟩
    rw [←hq] at hwh HW
    clear hq
    obtain ⟨u1,u2,u3⟩:=S3.out.cellsN 3 rfl
    obtain ⟨x1,x2,x3⟩:=S3.out.cellsN 1 rfl
    have wr_b:=S3.out.b
    cases q with
    | false =>
     have HG:Hid (goodM l=false):=by unfold goodM;rw [HW.out];exact Lib.hid rfl
     refine hwh.mono ?_
     rintro e w4 ⟨rfl,rfl⟩
     clear hwh
     go_wp2_with fail
     exact bodyPost_ret (v:=.tuple #[.agg #[.int .i64 0,.int .i64 0,.slice none 0 0],.int .i64 3]) (by simp only [results,Tryz.results91];go_simp) rfl ⟨bg,by rw [if_neg (by rw [HG.out];simp)]⟩
    | true =>
     have hrow:wr.ownsRow w.heap.size 87 9 (.slice zo L.length zc) L.length (znR L):=S3.out.mem (t:=thRow w.heap.size 87 9 zo L.length zc (znR L)) (by simp)
     have Hzs:Hid (ZsAt wr zo L):=row_zs hrow
     have hmay:=rmay_all zo zc ⟨ver,nx,L⟩ wr (by simp only;omega) Hzs.out
     have HM:Hid ((decM l).1=⟨ver,nx,L⟩):=by rw [HD.out,Hver.out,Hnx.out];exact Lib.hid rfl
     obtain ⟨qm,hqm⟩:∃ qm,qm=mayM ⟨ver,nx,L⟩:=⟨_,rfl⟩
     have HG:Hid (goodM l=qm):=by unfold goodM;rw [HW.out,HM.out,hqm];exact Lib.hid (by simp)
     rw [←hqm] at hmay
     dsimp only at hmay
     have Hmay:=Lib.hid hmay
     clear hrow hqm hmay
     go_wp2_with fail
     refine hwh.mono ?_
     rintro e w4 ⟨rfl,rfl⟩
     clear hwh
     go_wp2_with fail
     refine Hmay.out.mono ?_
     rintro e w5 ⟨rfl,hb5⟩
     have S4:=Lib.hid (S3.out.grow hb5)
     have w5_b:=S4.out.b
     obtain ⟨u1,u2,u3⟩:=S4.out.cellsN 3 rfl
     obtain ⟨x1,x2,x3⟩:=S4.out.cellsN 1 rfl
     clear hb5 S3
     cases qm with
     | false =>
      go_wp2_with fail
      exact bodyPost_ret (v:=.tuple #[.agg #[.int .i64 0,.int .i64 0,.slice none 0 0],.int .i64 3]) (by simp only [results,Tryz.results91];go_simp) rfl ⟨bg,by rw [if_neg (by rw [HG.out];simp)]⟩
     | true =>
      go_wp2_with fail
      have S6:=Lib.hid ((((S4.out.pull (A:=[_,_,_])).setObj 0 (.int .i64 (ver:Nat))).setObj 1 (.int .i64 (nx:Nat))).setObj 2 (.slice zo L.length zc))
      refine bodyPost_ret (v:=.tuple #[.agg #[.int .i64 (ver:Nat),.int .i64 (nx:Nat),.slice zo L.length zc],.int .i64 0]) (by simp only [results,Tryz.results91];go_simp) rfl ⟨bg,?_⟩
      rw [if_pos HG.out,HM.out]
      have hrow:=S6.out.mem (t:=thRow w.heap.size 87 9 zo L.length zc (znR L)) (by simp)
      exact ⟨zo,zc,rfl,row_zs hrow,row_none hrow⟩
end Go.Proofs.YthlcmjgdilebeaaGreat.O