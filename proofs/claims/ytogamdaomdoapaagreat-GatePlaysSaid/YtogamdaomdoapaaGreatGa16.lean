/- Texts put together: ORd, ORn. -/
import Derived.Test.YtogamdaomdoapaaGreatGa05
import Derived.Test.YtogamdaomdoapaaGreatGa08
import Derived.Test.YtogamdaomdoapaaGreatGa13
import Derived.Test.YtogamdaomdoapaaGreatGa15
namespace Go.Proofs.YtogamdaomdoapaaGreat.O
open Go.Value renaming int→aI,string→aS
open Go.IntKind renaming i64→aK
open List renaming setIfInBounds_toArray→lA,set_cons_zero→lZ,set_cons_succ→lS,length_append→lL
open Bool renaming eq_false_or_eq_true→bE
open Go.Lib renaming hid→uH
open Go.RowKit
set_option maxRecDepth 20000
theorem ro_bad {W w:World} {p g:Nat} {rest:List UInt8} {bad:Bool} (h:(thRO W p g rest bad).T w):w.cell? ⟨p,1,none⟩=some (.bool bad)∧p<w.heap.size:=by
 obtain ⟨-,ao,cap,h1,-⟩:=h
 exact ⟨(b0b h1).1 1,lt_of_block h1⟩
theorem g0x {W w:World} {L:List Th} {p g:Nat} {rest:List UInt8} {bad:Bool} (h:St W w (thRO W p g rest bad::L)) (hm:rest.length≤140737488351232) :
 Calls Tryz.prog 61 #[.pointer (some ⟨p,0,none⟩)] w fun e w'=>∃ ao cap,e=.returned (.slice ao (a0q rest bad).1.length cap)∧OwnB w' w.heap.size ao cap (a0q rest bad).1∧St W w' (thRO W p g (a0q rest bad).2.1 (a0q rest bad).2.2::L)∧Keeps w w' (fun x=>x=p):=by
 refine (f0t p g rest bad w (RO.rr h.head h.b) hm).mono ?_
 rintro e w' ⟨x,r',b',ao,cap,ht,rfl,ho,hr,hk⟩
 rw [←ht]
 exact ⟨ao,cap,rfl,ho,h.r0u hr hk (d0n ht).2,hk⟩
theorem s0q {w w':World} {base p:Nat} {ao:Option Addr} {cap:Nat} {l:List UInt8} (h:OwnB w base ao cap l) (k:Keeps w w' (fun x=>x=p)) (hp:p<base):OwnB w' base ao cap l :=
 k0v h k fun g hg e=>by have:=(d0a h g hg).2;omega
theorem w0b (ao:Option Addr) (zc:Nat) (ver nx:Int) (w:World) :
 Calls Tryz.prog 34 #[.agg #[aI aK ver,aI aK nx,.slice ao ([]:List Zn).length zc]] w fun e w'=>e=.returned (.bool false)∧Below w.heap.size w w':=by
 rw [List.length_nil]
 rcases bE (decide (ver<1)) with t1 | t1
 ·(go_enter Tryz.func34,Tryz.ntmps34;(go_wp2_with fail);go_ret;exact ⟨rfl,bg⟩)
 rcases bE (decide (1099511627776<ver)) with t2 | t2
 ·(go_enter Tryz.func34,Tryz.ntmps34;(go_wp2_with fail);go_ret;exact ⟨rfl,bg⟩)
 rcases bE (decide (nx<1)) with t3 | t3
 ·(go_enter Tryz.func34,Tryz.ntmps34;(go_wp2_with fail);go_ret;exact ⟨rfl,bg⟩)
 rcases bE (decide (1099511627776<nx)) with t4 | t4
 ·(go_enter Tryz.func34,Tryz.ntmps34;(go_wp2_with fail);go_ret;exact ⟨rfl,bg⟩)
 go_enter Tryz.func34,Tryz.ntmps34
 go_wp2_with fail
 (refine a0d fun wa hwa=>?_;have wa_s0:=sg w.heap.size hwa;obtain wa_c0:=kk1 hwa w.heap.size 2 (.slice ao 0 zc);have wa_b:Below w.heap.size w wa:=(by rw [hwa];exact bg);clear hwa)
 go_loopw [3,4] (fun s3 s4 wr=>s3=.slice none 0 0∧s4=aI aK 0∧wr=wa) (fun _ _ _=>0)
 case atStart=>exact ⟨rfl,rfl,rfl⟩
 case round =>
  obtain ⟨rfl,rfl,rfl⟩:=hrel
  go_wp2_with fail
  refine (j0p none 0 wr).mono ?_
  rintro e w2 ⟨rfl,hb⟩
  have hb2:=wa_b.trans (hb.mono wa_b.size)
  go_wp2_with fail
  go_ret
  exact ⟨rfl,hb2⟩
theorem s0i (ao:Option Addr) (zc:Nat) (m:Mp) (w:World) (hm:m.zs.length≤1000) (h:ZsAt w ao m.zs) :
 Calls Tryz.prog 34 #[.agg #[aI aK m.ver,aI aK m.next,.slice ao m.zs.length zc]] w fun e w'=>e=.returned (.bool (mayM m))∧Below w.heap.size w w':=by
 by_cases h1:0<m.zs.length
 ·obtain ⟨g,o,rfl,hz⟩:=h h1
  exact h0t hz hm
 ·have h0:m.zs=[]:=List.length_eq_zero_iff.1 (by omega)
  have hf:mayM m=false:=by
   unfold mayM
   rw [h0]
   have:rAll (List.map spz [])=false:=rfl
   rw [this,Bool.and_false,Bool.and_false]
  rw [hf,h0]
  exact w0b ao zc m.ver m.next w
theorem j0c {r x:List UInt8} {b y:Bool} {d:Nat} (h:numT r b=(d,x,y)):x.length≤r.length:=by have:=(e0u r b).1;rw [h] at this;exact this
theorem x0v {r x1 x2 x3 x4:List UInt8} {b y1 y2 y3 y4:Bool} {d1 d2 d3 d4:Nat} (h1:numT r b=(d1,x1,y1)) (h2:numT x1 y1=(d2,x2,y2)) (h3:numT x2 y2=(d3,x3,y3)) (h4:numT x3 y3=(d4,x4,y4)):a0j r b 0=d1∧a0j r b 1=d2∧a0j r b 2=d3∧a0j r b 3=d4∧rdSt r b 4=(x4,y4):=by
 have s1:rdSt r b 1=(x1,y1):=by rw [rdSt,rz];dsimp only;rw [h1]
 have s2:rdSt r b 2=(x2,y2):=by rw [rdSt,s1];dsimp only;rw [h2]
 have s3:rdSt r b 3=(x3,y3):=by rw [rdSt,s2];dsimp only;rw [h3]
 have s4:rdSt r b 4=(x4,y4):=by rw [rdSt,s3];dsimp only;rw [h4]
 refine ⟨?_,?_,?_,?_,s4⟩
 ·unfold a0j;rw [rz];dsimp only;rw [h1]
 ·unfold a0j;rw [s1];dsimp only;rw [h2]
 ·unfold a0j;rw [s2];dsimp only;rw [h3]
 ·unfold a0j;rw [s3];dsimp only;rw [h4]
set_option maxHeartbeats 4000000 in
theorem w0m (ao:Option Addr) (cap:Nat) (l:List UInt8) (w:World) (h0:ao=none→l.length=0∧cap=0) (hlc:l.length≤cap) (hcm:cap≤9223372036854775807) (ha:BAt w ao l) (hm:l.length≤2000) :
 Calls Tryz.prog 98 #[.slice ao l.length cap] w (n0z w l (aI aK 0) (aI aK 3)):=by
 have Ha:=uH ha
 have H0:=uH h0
 obtain ⟨i0,hii,hz0,hz1,hz2⟩:=info_parts o0b
 clear ha h0
 go_enter Tryz.func98,Tryz.ntmps98
 go_wp2_with fail
 have s0:=(St.start w).objN (.cells #[aI aK 0,aI aK 0,.slice none 0 0] 44) w.heap.size rfl
 obtain ⟨g,s1⟩:=s0.newRO (w.heap.size+1) (by simp) ao cap l hlc hcm H0.out Ha.out
 obtain ⟨p,hp⟩:∃ p,p=w.heap.size+1:=⟨_,rfl⟩
 rw [←hp] at s1 ⊢
 have S1:Hid (St w _ [thRO w p g l false,a0c w.heap.size (.cells #[aI aK 0,aI aK 0,.slice none 0 0] 44)]):=uH s1
 clear s0 s1
 have e1:=St.b0g S1.out (by omega)
 rw [show numT l false=(a0j l false 0,(rdSt l false 1).1,(rdSt l false 1).2) from b0j l false 0 1 rfl] at e1
 refine e1.mono ?_
 rintro e w1 ⟨rfl,hS⟩
 have S2:=uH hS
 clear hS S1 e1 hp
 go_wp2_with fail
 have hl1:=b0f l false 1
 have e1:=St.b0g S2.out (by omega)
 rw [b0j l false 1 2 rfl] at e1
 refine e1.mono ?_
 rintro e w2 ⟨rfl,hS⟩
 obtain ⟨ver,hver⟩:∃ v,v=a0j l false 0:=⟨_,rfl⟩
 obtain ⟨nx,hnx⟩:∃ v,v=a0j l false 1:=⟨_,rfl⟩
 have S3:=uH hS
 dsimp only at S3 ⊢
 rw [←hver,←hnx]
 have Hver:=uH hver
 have Hnx:=uH hnx
 clear hS S2 hver hnx hl1 e1
 go_wp2_with fail
 obtain ⟨M,hM⟩:∃ M,M=w2.heap.size:=⟨_,rfl⟩
 have hMw:w.heap.size<M:=by rw [hM];exact (S3.out.a0b 1 rfl).1
 rw [←hM]
 have S4:Hid (St w _ [thRO w p g (rdSt l false 2).1 (rdSt l false 2).2,a0c M (.cells #[aI aK (ver:Nat),aI aK (nx:Nat),.slice none 0 0] 44),a0c w.heap.size (.cells #[aI aK 0,aI aK 0,.slice none 0 0] 44)]):=uH ((S3.out.objN (.cells #[aI aK (ver:Nat),aI aK (nx:Nat),.slice none 0 0] 44) M hM).pull (A:=[_]))
 have hl2:=b0f l false 2
 have hcall:=St.b0g S4.out (by omega)
 rw [b0j l false 2 3 rfl] at hcall
 refine hcall.mono ?_
 rintro e w3 ⟨rfl,hS⟩
 have S3:=uH hS
 have HI:=uH (RdI.start l)
 obtain ⟨r,b,hrb⟩:∃ r b,rdSt l false 3=(r,b):=⟨_,_,rfl⟩
 obtain ⟨j,hj⟩:∃ j,j=a0j l false 2:=⟨_,rfl⟩
 dsimp only at S3 ⊢
 rw [hrb] at S3 HI
 rw [←hj] at HI ⊢
 dsimp only at S3 HI
 have hjl:j≤4611686018427387904:=by rw [hj];exact d0i _ _ _
 clear hcall hS S4 hl2 hrb hj hM
 go_wp2_with fail
 obtain ⟨N,hN⟩:∃ N,N=j:=⟨_,rfl⟩
 go_loopw [7] (fun s wr=>∃ (i j:Nat) (r:List UInt8) (b:Bool) (L:List Zn) (zo:Option Addr) (zc:Nat),s=aI aK i∧i+j=N∧Hid (RdI l j L r b)∧Hid (St w wr [thRO w p g r b,a0c M (.cells #[aI aK (ver:Nat),aI aK (nx:Nat),.slice zo L.length zc] 44),c0f w.heap.size 125 9 zo L.length zc (znR L),a0c w.heap.size (.cells #[aI aK 0,aI aK 0,.slice none 0 0] 44)])) (fun s _=>N - (intOf s).toNat)
 case atStart=>exact ⟨0,j,r,b,[],none,0,rfl,by omega,HI,uH ((S3.out.m0h _ _).perm (by refine (List.Perm.swap _ _ _).trans (List.Perm.cons _ (List.Perm.swap _ _ _))))⟩
 case round =>
  clear S3 HI
  have hNl:N≤4611686018427387904:=by omega
  rw [←hN]
  clear hN hjl
  obtain ⟨i,j,r,b,L,zo,zc,rfl,hij,HI,S3⟩:=hrel
  obtain ⟨b1,b2⟩:=ro_bad S3.out.head
  by_cases hgo:0<j∧b=false
  ·obtain ⟨hj0,rfl⟩:=hgo
   have hji:(i:Int)<N:=by omega
   obtain ⟨j,rfl⟩:∃ k,j=k+1:=⟨j - 1,by omega⟩
   obtain ⟨zid,fr,to,owner,epoch,pend,tt,key,nw,r1,c1,r2,c2,r3,c3,r4,c4,r5,c5,r6,c6,hz⟩:=zis r false
   have Hz:=uH hz
   have hrl:r.length≤2000:=by have:=HI.out.left;omega
   clear hz
   go_wp2_with fail
   have hcall:=St.b0g S3.out (by omega)
   rw [Hz.out.e1] at hcall
   refine hcall.mono ?_
   rintro e w4 ⟨rfl,hS⟩
   have S4:=uH hS
   dsimp only at S4 ⊢
   clear hcall hS S3 b1 b2
   go_wp2_with fail
   refine a0d fun wb hwb=>?_
   obtain ⟨bx,hbx⟩:∃ bx,bx=w4.heap.size:=⟨_,rfl⟩
   have hbl:M<bx:=by rw [hbx];exact (S4.out.a0b 1 rfl).1
   have S5:Hid (St w wb.drew [thRO w p g r1 c1,a0c bx (.cells #[aI aK (zid:Nat),aS ⟨#[]⟩,aS ⟨#[]⟩,aI aK 0,aI aK 0,aI aK 0,aI aK 0,aS ⟨#[]⟩,aI aK 0] 125),a0c M (.cells #[aI aK (ver:Nat),aI aK (nx:Nat),.slice zo L.length zc] 44),c0f w.heap.size 125 9 zo L.length zc (znR L),a0c w.heap.size (.cells #[aI aK 0,aI aK 0,.slice none 0 0] 44)]):=by
    rw [hwb]
    exact uH (((S4.out.objN (.cells #[aI aK (zid:Nat),aS ⟨#[]⟩,aS ⟨#[]⟩,aI aK 0,aI aK 0,aI aK 0,aI aK 0,aS ⟨#[]⟩,aI aK 0] 125) bx hbx).pull (A:=[_])).grow (Below.refl _ _).drew)
   rw [←hbx]
   clear S4 hbx hwb
   refine wp_region_noPanic ?_
   refine wp_region_held (S:=fun _=>True) (by kernel_rfl) ?_
   change wpAnyH _ _ _ _ _ _ _ _ (World.drew _)
   (refine takeD (i:=0) (v:=?v0x) 34 rfl rfl (by kernel_rfl) (by kernel_rfl) (by kernel_rfl) (fun _ _ _ h=>h) (Or.inl ⟨by rfl,?hy0x⟩) trivial ?rest0x;(case hy0x=>(intro w _;go_simp;(try with_reducible rfl)));(try simp only [Act.put,lA,lZ,lS]))
   (refine takeD (i:=3) (v:=?v3x) 37 rfl rfl (by kernel_rfl) (by kernel_rfl) (by kernel_rfl) (fun _ _ _ h=>h) (Or.inl ⟨by rfl,?hy3x⟩) trivial ?rest3x;(case hy3x=>(intro w _;go_simp;(try with_reducible rfl)));(try simp only [Act.put,lA,lZ,lS]))
   have hcall:=g0x S5.out (by have:=Hz.out.l1;omega)
   rw [Hz.out.e2] at hcall
   (refine oneD 1 rfl (fun K' hK'=>?_))
   go_simp
   refine hcall.mono ?_
   rintro e w5 ⟨yo,yc,rfl,ho,hS,-⟩
   have hpb:p<wb.drew.heap.size:=(ro_bad S5.out.head).2
   have S6:=uH hS
   have Ho:=uH ho
   dsimp only at S6 Ho ⊢
   have hcv:=b0c Ho.out.at yc
   refine hK' _ _ ⟨trivial,?_⟩
   clear hK' K' hcall hS ho S5
   try simp only [Act.put,lA,lZ,lS]
   have hcall:=g0x S6.out (by have:=Hz.out.l2;omega)
   rw [Hz.out.e3] at hcall
   refine wpAnyH_all (rs:=[2,4]) (by kernel_rfl) (by simp) (fun i' hi'=>?_)
   have hi2:i'=2∨i'=4:=by simpa using hi'
   clear hi'
   rcases hi2 with rfl | rfl
   case' inl =>
    refine wpOp_step rfl (fun K' hK'=>?_)
    go_simp
    refine hK' _ _ ⟨trivial,?_⟩
    clear hK' K' hcv
    try simp only [Act.put,lA,lZ,lS]
    (refine oneD 4 rfl (fun K' hK'=>?_))
    go_simp
    refine hcall.mono ?_
    rintro e w6 ⟨xo,xc,rfl,ho,hS,-⟩
    have S7:=uH hS
    have Ho2:=uH ho
    dsimp only at S7 Ho2 ⊢
    have hcv:=b0c Ho2.out.at xc
    refine hK' _ _ ⟨trivial,?_⟩
    clear hK' K' hcall hS ho S6
    try simp only [Act.put,lA,lZ,lS]
    (refine oneD 5 rfl (fun K' hK'=>?_))
    go_simp
    refine hK' _ _ ⟨trivial,?_⟩
    clear hK' K' hcv
    try simp only [Act.put,lA,lZ,lS]
   case' inr =>
    refine wpOp_step rfl (fun K' hK'=>?_)
    go_simp
    refine hcall.mono ?_
    rintro e w6 ⟨xo,xc,rfl,ho,hS,hk⟩
    have S7:=uH hS
    have Ho2:=uH ho
    dsimp only at S7 Ho2 ⊢
    have hcv2:=b0c Ho2.out.at xc
    have hcv1:=b0c (s0q Ho.out hk hpb).at yc
    refine hK' _ _ ⟨trivial,?_⟩
    clear hK' K' hcall hS ho S6 hk hcv
    try simp only [Act.put,lA,lZ,lS]
    refine wpAnyH_all (rs:=[2,5]) (by kernel_rfl) (by simp) (fun i' hi'=>?_)
    have hi2:i'=2∨i'=5:=by simpa using hi'
    clear hi'
    rcases hi2 with rfl | rfl
   case' inr.inl =>
    refine wpOp_step rfl (fun K' hK'=>?_)
    go_simp
    refine hK' _ _ ⟨trivial,?_⟩
    clear hK' K'
    try simp only [Act.put,lA,lZ,lS]
    (refine oneD 5 rfl (fun K' hK'=>?_))
    go_simp
    refine hK' _ _ ⟨trivial,?_⟩
    clear hK' K'
    try simp only [Act.put,lA,lZ,lS]
   case' inr.inr =>
    refine wpOp_step rfl (fun K' hK'=>?_)
    go_simp
    refine hK' _ _ ⟨trivial,?_⟩
    clear hK' K'
    try simp only [Act.put,lA,lZ,lS]
    (refine oneD 2 rfl (fun K' hK'=>?_))
    go_simp
    refine hK' _ _ ⟨trivial,?_⟩
    clear hK' K'
    try simp only [Act.put,lA,lZ,lS]
   all_goals
    obtain ⟨z1,z2,z3⟩:=S7.out.a0b 1 rfl
    have S8:Hid (St w ((w6.setCell ⟨bx,1,none⟩ (aS ⟨fr.toArray⟩)).setCell ⟨bx,2,none⟩ (aS ⟨to.toArray⟩)) [thRO w p g r3 c3,a0c bx (.cells #[aI aK (zid:Nat),aS ⟨fr.toArray⟩,aS ⟨to.toArray⟩,aI aK 0,aI aK 0,aI aK 0,aI aK 0,aS ⟨#[]⟩,aI aK 0] 125),a0c M (.cells #[aI aK (ver:Nat),aI aK (nx:Nat),.slice zo L.length zc] 44),c0f w.heap.size 125 9 zo L.length zc (znR L),a0c w.heap.size (.cells #[aI aK 0,aI aK 0,.slice none 0 0] 44)]):=uH ((((S7.out.pull (A:=[_])).setObj 1 (aS ⟨fr.toArray⟩)).setObj 2 (aS ⟨to.toArray⟩)).pull (A:=[_]))
    (refine oneD 6 rfl (fun K' hK'=>?_))
    go_simp
    refine hK' _ _ ⟨trivial,?_⟩
    clear hK' K'
    try simp only [Act.put,lA,lZ,lS]
    (refine oneD 7 rfl (fun K' hK'=>?_))
    go_simp
    refine hK' _ _ ⟨trivial,?_⟩
    clear hK' K'
    try simp only [Act.put,lA,lZ,lS]
    (refine oneD 8 rfl (fun K' hK'=>?_))
    go_simp
    refine hK' _ _ ⟨trivial,?_⟩
    clear hK' K'
    refine wpAnyH_done (by kernel_rfl) ?_ _
    refine NoPanic.normal ?_
    clear S7 z1 z2 z3 Ho Ho2
    go_wp2_with fail
    obtain ⟨d1,x1,y1,q1⟩:∃ d x y,numT r3 c3=(d,x,y):=⟨_,_,_,eta3 _⟩
    obtain ⟨d2,x2,y2,q2⟩:∃ d x y,numT x1 y1=(d,x,y):=⟨_,_,_,eta3 _⟩
    obtain ⟨d3,x3,y3,q3⟩:∃ d x y,numT x2 y2=(d,x,y):=⟨_,_,_,eta3 _⟩
    obtain ⟨d4,x4,y4,q4⟩:∃ d x y,numT x3 y3=(d,x,y):=⟨_,_,_,eta3 _⟩
    have HF:=uH (x0v q1 q2 q3 q4)
    have Hl1:=uH (j0c q1)
    have Hl2:=uH (j0c q2)
    have Hl3:=uH (j0c q3)
    have Hq1:=uH q1
    have Hq2:=uH q2
    have Hq3:=uH q3
    have Hq4:=uH q4
    clear q1 q2 q3 q4
    have hcall:=St.b0g S8.out (by have:=Hz.out.l3;omega)
    rw [Hq1.out] at hcall
    refine hcall.mono ?_
    rintro e v1 ⟨rfl,hS⟩
    have T1:=uH hS
    dsimp only at T1 ⊢
    clear hcall hS S8
    go_wp2_with fail
    have hcall:=St.b0g T1.out (by have:=Hz.out.l3;have:=Hl1.out;omega)
    rw [Hq2.out] at hcall
    refine hcall.mono ?_
    rintro e v2 ⟨rfl,hS⟩
    have T2:=uH hS
    dsimp only at T2 ⊢
    clear hcall hS T1
    go_wp2_with fail
    have hcall:=St.b0g T2.out (by have:=Hz.out.l3;have:=Hl1.out;have:=Hl2.out;omega)
    rw [Hq3.out] at hcall
    refine hcall.mono ?_
    rintro e v3 ⟨rfl,hS⟩
    have T3:=uH hS
    dsimp only at T3 ⊢
    clear hcall hS T2
    go_wp2_with fail
    have hcall:=St.b0g T3.out (by have:=Hz.out.l3;have:=Hl1.out;have:=Hl2.out;have:=Hl3.out;omega)
    rw [Hq4.out] at hcall
    refine hcall.mono ?_
    rintro e v4 ⟨rfl,hS⟩
    have T4:=uH hS
    dsimp only at T4 ⊢
    clear hcall hS T3
    obtain ⟨z1,z2,z3⟩:=T4.out.a0b 1 rfl
    have S9:Hid (St w ((((v4.setCell ⟨bx,3,none⟩ (aI aK (d1:Nat))).setCell ⟨bx,4,none⟩ (aI aK (d2:Nat))).setCell ⟨bx,5,none⟩ (aI aK (d3:Nat))).setCell ⟨bx,6,none⟩ (aI aK (d4:Nat))) [thRO w p g r4 c4,a0c bx (.cells #[aI aK (zid:Nat),aS ⟨fr.toArray⟩,aS ⟨to.toArray⟩,aI aK (owner:Nat),aI aK (epoch:Nat),aI aK (pend:Nat),aI aK (tt:Nat),aS ⟨#[]⟩,aI aK 0] 125),a0c M (.cells #[aI aK (ver:Nat),aI aK (nx:Nat),.slice zo L.length zc] 44),c0f w.heap.size 125 9 zo L.length zc (znR L),a0c w.heap.size (.cells #[aI aK 0,aI aK 0,.slice none 0 0] 44)]):=by
     have e:=HF.out
     rw [Hz.out.e4,←Hz.out.v0,←Hz.out.v1,←Hz.out.v2,←Hz.out.v3] at e
     obtain ⟨e1,e2,e3,e4,e5⟩:=e
     rw [Prod.mk.injEq] at e5
     rw [e1,e2,e3,e4,e5.1,e5.2]
     exact uH ((((((T4.out.pull (A:=[_])).setObj 3 (aI aK (d1:Nat))).setObj 4 (aI aK (d2:Nat))).setObj 5 (aI aK (d3:Nat))).setObj 6 (aI aK (d4:Nat))).pull (A:=[_]))
    clear T4
    go_wp2_with fail
    clear z1 z2 z3 HF Hl1 Hl2 Hl3 Hq1 Hq2 Hq3 Hq4
    have hcall:=g0x S9.out (by have:=Hz.out.l4;omega)
    rw [Hz.out.e5] at hcall
    refine hcall.mono ?_
    rintro e w9 ⟨zo2,zc2,rfl,ho,hS,-⟩
    have T:=uH hS
    obtain ⟨z1,z2,z3⟩:=T.out.a0b 1 rfl
    have hcv:=b0c ho.at zc2
    clear hcall hS S9 ho
    go_wp2_with fail
    have SA:Hid (St w (w9.setCell ⟨bx,7,none⟩ (aS ⟨key.toArray⟩)) [thRO w p g r5 c5,a0c bx (.cells #[aI aK (zid:Nat),aS ⟨fr.toArray⟩,aS ⟨to.toArray⟩,aI aK (owner:Nat),aI aK (epoch:Nat),aI aK (pend:Nat),aI aK (tt:Nat),aS ⟨key.toArray⟩,aI aK 0] 125),a0c M (.cells #[aI aK (ver:Nat),aI aK (nx:Nat),.slice zo L.length zc] 44),c0f w.heap.size 125 9 zo L.length zc (znR L),a0c w.heap.size (.cells #[aI aK 0,aI aK 0,.slice none 0 0] 44)]):=uH (((T.out.pull (A:=[_])).setObj 7 (aS ⟨key.toArray⟩)).pull (A:=[_]))
    clear T z1 z2 z3 hcv
    have hcall:=St.b0g SA.out (by have:=Hz.out.l5;omega)
    rw [Hz.out.e6] at hcall
    refine hcall.mono ?_
    rintro e w10 ⟨rfl,hS⟩
    have T:=uH hS
    obtain ⟨z1,z2,z3⟩:=T.out.a0b 1 rfl
    clear hcall hS SA
    have SB:Hid (St w (w10.setCell ⟨bx,8,none⟩ (aI aK (nw:Nat))) [thRO w p g r6 c6,a0c bx (.cells #[aI aK (zid:Nat),aS ⟨fr.toArray⟩,aS ⟨to.toArray⟩,aI aK (owner:Nat),aI aK (epoch:Nat),aI aK (pend:Nat),aI aK (tt:Nat),aS ⟨key.toArray⟩,aI aK (nw:Nat)] 125),a0c M (.cells #[aI aK (ver:Nat),aI aK (nx:Nat),.slice zo L.length zc] 44),c0f w.heap.size 125 9 zo L.length zc (znR L),a0c w.heap.size (.cells #[aI aK 0,aI aK 0,.slice none 0 0] 44)]):=uH (((T.out.pull (A:=[_])).setObj 8 (aI aK (nw:Nat))).pull (A:=[_]))
    have hrow:(w10.setCell ⟨bx,8,none⟩ (aI aK (nw:Nat))).ownsRow w.heap.size 125 9 (.slice zo L.length zc) L.length (znR L):=SB.out.mem (t:=c0f w.heap.size 125 9 zo L.length zc (znR L)) (by simp)
    obtain ⟨m1,m2,m3⟩:=T.out.a0b 2 rfl
    obtain ⟨z,hzz⟩:∃ z:Zn,z=⟨zid,txt fr,txt to,owner,epoch,pend,tt,txt key,nw⟩:=⟨_,rfl⟩
    have Hzz:=uH hzz
    clear hzz
    have hne:¬M=bx:=by omega
    have hne2:¬bx=M:=by omega
    have hLl:L.length≤2000:=by have:=HI.out.len;omega
    have hwz:=SB.out.b.size
    clear T
    go_wp2_with (at_builtin;go_must (refine a0h _ rfl (.tmp 62) (.tmp 64) 42 rfl w.heap.size 125 i0 (.agg zz9) 9 96 Tryz.underlying42 hii hz0 hz1 hz2 rfl (by decide) zo L.length zc _ rfl (hrow.alloc _) (some ⟨w10.heap.size,0,none⟩) 1 1 (znV z) rfl (fun h=>by cases h) rfl ?_ (u0t z) (by unfold maxLen;omega) (by omega) (by simp [World.setCell] at hwz ⊢;omega) ?_))
    ·rw [Hzz.out];exact q0n _ _ (by simp [World.setCell]) _ _
    intro co c' w11 hown hgrow hco
    have SD:Hid (St w w11 [c0f w.heap.size 125 9 co (L.length+1) c' (znR L++znV z),a0c w10.heap.size (.cells #[aI aK (zid:Nat),aS ⟨fr.toArray⟩,aS ⟨to.toArray⟩,aI aK (owner:Nat),aI aK (epoch:Nat),aI aK (pend:Nat),aI aK (tt:Nat),aS ⟨key.toArray⟩,aI aK (nw:Nat)] 125),thRO w p g r6 c6,a0c bx (.cells #[aI aK (zid:Nat),aS ⟨fr.toArray⟩,aS ⟨to.toArray⟩,aI aK (owner:Nat),aI aK (epoch:Nat),aI aK (pend:Nat),aI aK (tt:Nat),aS ⟨key.toArray⟩,aI aK (nw:Nat)] 125),a0c M (.cells #[aI aK (ver:Nat),aI aK (nx:Nat),.slice zo L.length zc] 44),a0c w.heap.size (.cells #[aI aK 0,aI aK 0,.slice none 0 0] 44)]):=by
     have s1:=SB.out.objN (.cells #[aI aK (zid:Nat),aS ⟨fr.toArray⟩,aS ⟨to.toArray⟩,aI aK (owner:Nat),aI aK (epoch:Nat),aI aK (pend:Nat),aI aK (tt:Nat),aS ⟨key.toArray⟩,aI aK (nw:Nat)] 125) w10.heap.size (by simp [World.setCell])
     exact uH ((s1.pull (A:=[_,_,_,_])).g0a (m:=1) hown hgrow (fun a ha=>(hco a ha).imp id (fun h=>by simp [World.setCell] at h ⊢;omega)))
    obtain ⟨n1,n2,n3⟩:=SD.out.a0b 4 rfl
    have SC:Hid (St w (w11.setCell ⟨M,2,none⟩ (.slice co (L.length+1) c')) [thRO w p g r6 c6,a0c M (.cells #[aI aK (ver:Nat),aI aK (nx:Nat),.slice co ((L++[z]).length) c'] 44),c0f w.heap.size 125 9 co (L++[z]).length c' (znR (L++[z])),a0c w.heap.size (.cells #[aI aK 0,aI aK 0,.slice none 0 0] 44)]):=by
     have e1:(L++[z]).length=L.length+1:=by simp
     have e2:znR (L++[z])=znR L++znV z:=by rw [l0u,e0z,u0v,List.append_nil]
     rw [e1,e2]
     have s1:=(SD.out.pull (A:=[_,_,_,_])).setObj 2 (.slice co (L.length+1) c')
     have s2:=(s1.pull (A:=[_,_])).drop
     have s3:=(s2.pull (A:=[_,_,_])).drop
     exact uH (s3.pull (A:=[_,_]))
    have HI2:=uH (HI.out.next Hz.out)
    clear hown hgrow hco SB SD hrow m1 m2 m3 hne hne2 z1 z2 z3
    go_wp2_with fail
    go_roundw
    ·exact ⟨i+1,j,r6,c6,L++[z],co,c',by go_num,by omega,by rw [Hzz.out];exact HI2,SC⟩
    ·simp [intOf];omega
  ·have HD:=uH (HI.out.done (by
    by_cases h:0<j
    ·exact .inr (by cases b with | true=>rfl | false=>exact absurd ⟨h,rfl⟩ hgo)
    ·exact .inl (by omega)))
   have hrl:r.length≤2000:=by have:=HI.out.left;omega
   have hLl:L.length≤300:=by have:=HI.out.len;omega
   have Hsz:=uH HI.out.sz
   by_cases hj0:0<j
   case' pos =>
    have hb:b=true:=by cases b with | true=>rfl | false=>exact absurd ⟨hj0,rfl⟩ hgo
    have hji:(i:Int)<N:=by omega
    rw [hb] at b1
    go_wp2_with fail
    clear hb hji
   case' neg =>
    have hji:¬((i:Int)<N):=by omega
    go_wp2_with fail
    clear hji
   all_goals
    clear hgo hj0 b1 b2
    have hwh:=S3.out.r0p
    have HW:Hid (h0n (decM l).2=(!b&&r.isEmpty)):=by rw [HD.out];exact uH rfl
    obtain ⟨q,hq⟩:∃ q,q=(!b&&r.isEmpty):=⟨_,rfl⟩
    rw [←hq] at hwh HW
    clear hq
    obtain ⟨u1,u2,u3⟩:=S3.out.a0b 3 rfl
    obtain ⟨x1,x2,x3⟩:=S3.out.a0b 1 rfl
    have wr_b:=S3.out.b
    cases q with
    | false =>
     have HG:Hid (e0f l=false):=by unfold e0f;rw [HW.out];exact uH rfl
     refine hwh.mono ?_
     rintro e w4 ⟨rfl,rfl⟩
     clear hwh
     go_wp2_with fail
     exact bodyPost_ret (v:=.tuple #[.agg #[aI aK 0,aI aK 0,.slice none 0 0],aI aK 3]) (by simp only [results,Tryz.results98];go_simp) rfl ⟨bg,by rw [if_neg (by rw [HG.out];simp)]⟩
    | true =>
     have hrow:wr.ownsRow w.heap.size 125 9 (.slice zo L.length zc) L.length (znR L):=S3.out.mem (t:=c0f w.heap.size 125 9 zo L.length zc (znR L)) (by simp)
     have Hzs:Hid (ZsAt wr zo L):=s0f hrow
     have hmay:=s0i zo zc ⟨ver,nx,L⟩ wr (by simp only;omega) Hzs.out
     have HM:Hid ((decM l).1=⟨ver,nx,L⟩):=by rw [HD.out,Hver.out,Hnx.out];exact uH rfl
     obtain ⟨qm,hqm⟩:∃ qm,qm=mayM ⟨ver,nx,L⟩:=⟨_,rfl⟩
     have HG:Hid (e0f l=qm):=by unfold e0f;rw [HW.out,HM.out,hqm];exact uH (by simp)
     rw [←hqm] at hmay
     dsimp only at hmay
     have Hmay:=uH hmay
     clear hrow hqm hmay
     go_wp2_with fail
     refine hwh.mono ?_
     rintro e w4 ⟨rfl,rfl⟩
     clear hwh
     go_wp2_with fail
     refine Hmay.out.mono ?_
     rintro e w5 ⟨rfl,hb5⟩
     have S4:=uH (S3.out.grow hb5)
     have w5_b:=S4.out.b
     obtain ⟨u1,u2,u3⟩:=S4.out.a0b 3 rfl
     obtain ⟨x1,x2,x3⟩:=S4.out.a0b 1 rfl
     clear hb5 S3
     cases qm with
     | false =>
      go_wp2_with fail
      exact bodyPost_ret (v:=.tuple #[.agg #[aI aK 0,aI aK 0,.slice none 0 0],aI aK 3]) (by simp only [results,Tryz.results98];go_simp) rfl ⟨bg,by rw [if_neg (by rw [HG.out];simp)]⟩
     | true =>
      go_wp2_with fail
      have S6:=uH ((((S4.out.pull (A:=[_,_,_])).setObj 0 (aI aK (ver:Nat))).setObj 1 (aI aK (nx:Nat))).setObj 2 (.slice zo L.length zc))
      refine bodyPost_ret (v:=.tuple #[.agg #[aI aK (ver:Nat),aI aK (nx:Nat),.slice zo L.length zc],aI aK 0]) (by simp only [results,Tryz.results98];go_simp) rfl ⟨bg,?_⟩
      rw [if_pos HG.out,HM.out]
      have hrow:=S6.out.mem (t:=c0f w.heap.size 125 9 zo L.length zc (znR L)) (by simp)
      exact ⟨zo,zc,rfl,s0f hrow,s0g hrow⟩
end Go.Proofs.YtogamdaomdoapaaGreat.O
namespace Go.Proofs.YtogamdaomdoapaaGreat.O
open Go.Value renaming int→aI,string→aS
open Go.IntKind renaming i64→aK
open List renaming setIfInBounds_toArray→lA,set_cons_zero→lZ,set_cons_succ→lS,length_append→lL
open Bool renaming eq_false_or_eq_true→bE
open Go.Lib renaming hid→uH
open Go.RowKit
set_option maxRecDepth 20000
theorem f0u (vs:List Int) (w:World) (n k:Nat) (cur:Array Value) (hn:n=w.heap.size) (hk:k=vs.length) (hc:cur=(intV vs).toArray) (hm:vs.length≤1000000) (X:List UInt8) (hX:encs vs=X) :
 Calls Tryz.prog 54 #[.slice (some ⟨n,0,none⟩) k k] (w.alloc (.cells cur 3)) (d0b w X):=f0n vs w n k cur hn hk hc hm X hX
set_option maxHeartbeats 4000000 in
theorem w0g (ao:Option Addr) (zc:Nat) (m:Mp) (w:World) (h:ZsAt w ao m.zs) (hs:SzB m) :
 Calls Tryz.prog 91 #[.agg #[aI aK m.ver,aI aK m.next,.slice ao m.zs.length zc]] w (d0b w (encM m)):=by
 obtain ⟨i0,hii,hz0,hz1,hz2⟩:=info_parts c0h
 have Hz:=uH h
 have Hs:=uH hs
 have hcv:=b0y
 obtain ⟨n,hn⟩:∃ n,n=m.zs.length:=⟨_,rfl⟩
 obtain ⟨nx,hnx⟩:∃ nx,nx=m.next:=⟨_,rfl⟩
 obtain ⟨ver,hver⟩:∃ ver,ver=m.ver:=⟨_,rfl⟩
 have hn2:n≤2100:=by rw [hn];exact hs.1
 rw [←hn,←hnx,←hver]
 obtain ⟨hd,hhd⟩:∃ hd,hd=encs [ver,nx,(n:Int)]:=⟨_,rfl⟩
 have hhl:hd.length≤30:=by rw [hhd];exact a0m _
 have HE:Hid (encM m=hd++m.zs.flatMap encZ):=by unfold encM;rw [hhd,hn,hnx,hver];exact uH rfl
 have Hn:=uH hn
 have Hhd:=uH hhd
 clear h hs hn hnx hver hhd
 go_enter Tryz.func91,Tryz.ntmps91
 go_wp2_with fail
 have s0:=(St.start w).objN (.cells #[aI aK ver,aI aK nx,.slice ao n zc] 44) w.heap.size rfl
 refine (f0u [ver,nx,(n:Int)] (w.alloc (.cells #[aI aK ver,aI aK nx,.slice ao n zc] 44)) (w.heap.size+1) 3 _ (by simp) rfl rfl (by simp) hd Hhd.out.symm).mono ?_
 rintro e w1 ⟨bo,bc,rfl,ho,hb⟩
 have S1:Hid (∃ ao' cap cur,ao'=bo∧cap=bc∧cur.length=hd.length∧cur=hd++(m.zs.take 0).flatMap encZ∧St w w1 [f0g w.heap.size ao' cap cur,a0c w.heap.size (.cells #[aI aK ver,aI aK nx,.slice ao n zc] 44)]):=by
  refine uH ⟨bo,bc,hd,rfl,rfl,rfl,by simp,?_⟩
  exact s0.new hb (f0g w.heap.size bo bc hd) (b0a ho (by simp)) (fun x hx=>by
   obtain ⟨a,rfl,rfl⟩:=hx
   exact (d0a ho a.block rfl).2)
 clear s0 ho hb
 go_wp2_with fail
 go_loopw [3,4] (fun s3 s4 wr=>∃ (k:Nat) (bo:Option Addr) (bc:Nat) (cur:List UInt8),s4=aI aK k∧s3=.slice bo cur.length bc∧k≤n∧Hid (cur=hd++(m.zs.take k).flatMap encZ)∧Hid (St w wr [f0g w.heap.size bo bc cur,a0c w.heap.size (.cells #[aI aK ver,aI aK nx,.slice ao n zc] 44)])) (fun _ s4 _=>n - (intOf s4).toNat)
 case atStart =>
  obtain ⟨a1,a2,cur,rfl,rfl,e1,e2,hS⟩:=S1.out
  exact ⟨0,_,_,cur,rfl,by rw [e1],by omega,uH e2,uH hS⟩
 case round =>
  obtain ⟨k,bo,bc,cur,rfl,rfl,hk,Hcur,S2⟩:=hrel
  clear S1
  obtain ⟨b1,b2,-⟩:=S2.out.cells (t:=44) (b:=w.heap.size) (cur:=#[aI aK ver,aI aK nx,.slice ao n zc]) (by simp)
  by_cases hlt:k<n
  ·have hl1:k<m.zs.length:=by have:=Hn.out;omega
   obtain ⟨g,o,rfl,hz⟩:=Hz.out (by omega)
   have hgr:g<wr.heap.size:=Nat.lt_of_lt_of_le hz.lt S2.out.b.size
   obtain ⟨f0,f1,f2,f3,f4,f5,f6,f7,f8⟩:=(hz.grow S2.out.b).nine k hl1 _ rfl
   have hsz:=Hs.out.2 m.zs[k] (List.getElem_mem hl1)
   obtain ⟨zid,fr,to,owner,epoch,pend,tt,key,nw,hzk⟩:∃ zid fr to owner epoch pend tt key nw,m.zs[k]=(⟨zid,fr,to,owner,epoch,pend,tt,key,nw⟩:Zn):=⟨_,_,_,_,_,_,_,_,_,rfl⟩
   have htk:=o0f hl1
   rw [hzk] at hsz htk f0 f1 f2 f3 f4 f5 f6 f7 f8
   dsimp only at hsz f0 f1 f2 f3 f4 f5 f6 f7 f8
   have hcl:=l0j Hs.out k
   have hcl2:cur.length≤130000000:=by rw [Hcur.out,lL];omega
   obtain ⟨q1,hq1⟩:∃ q,q=encN (a0l zid):=⟨_,rfl⟩
   obtain ⟨q2,hq2⟩:∃ q,q=encS fr:=⟨_,rfl⟩
   obtain ⟨q3,hq3⟩:∃ q,q=encS to:=⟨_,rfl⟩
   obtain ⟨q4,hq4⟩:∃ q,q=encs [owner,epoch,pend,tt]:=⟨_,rfl⟩
   obtain ⟨q5,hq5⟩:∃ q,q=encS key:=⟨_,rfl⟩
   obtain ⟨q6,hq6⟩:∃ q,q=encN (a0l nw):=⟨_,rfl⟩
   have Htk:Hid (hd++(m.zs.take (k+1)).flatMap encZ=cur++q1++q2++q3++q4++q5++q6):=by
    rw [htk,Hcur.out,hq1,hq2,hq3,hq4,hq5,hq6]
    unfold encZ
    refine uH ?_
    simp only [d0y,e0o,List.append_nil,List.append_assoc]
   obtain ⟨h1,h2,h3⟩:=hsz
   have l1:q1.length≤10:=by rw [hq1];exact (a0o _).1
   have l2:q2.length≤20010:=by rw [hq2];have:=a0t fr;omega
   have l3:q3.length≤20010:=by rw [hq3];have:=a0t to;omega
   have l4:q4.length≤40:=by rw [hq4];exact a0m _
   have l5:q5.length≤20010:=by rw [hq5];have:=a0t key;omega
   have l6:q6.length≤10:=by rw [hq6];exact (a0o _).1
   have hnum1:=fun w=>g0w zid w
   have hnum6:=fun w=>g0w nw w
   rw [←hq1] at hnum1
   rw [←hq6] at hnum6
   have hst2:=fun w3 gg cp (ha:BAt w3 (some ⟨gg,0,none⟩) fr.data.toList)=>c0l fr gg cp w3 ha (by rw [Array.length_toList];exact Nat.le_trans h1 (by decide))
   have hst3:=fun w3 gg cp (ha:BAt w3 (some ⟨gg,0,none⟩) to.data.toList)=>c0l to gg cp w3 ha (by rw [Array.length_toList];exact Nat.le_trans h2 (by decide))
   have hst5:=fun w3 gg cp (ha:BAt w3 (some ⟨gg,0,none⟩) key.data.toList)=>c0l key gg cp w3 ha (by rw [Array.length_toList];exact Nat.le_trans h3 (by decide))
   rw [←hq2] at hst2
   rw [←hq3] at hst3
   rw [←hq5] at hst5
   have H1:=uH hnum1
   have H2:=uH hst2
   have H3:=uH hst3
   have H4:=uH hq4
   have H5:=uH hst5
   have H6:=uH hnum6
   clear hz hzk htk hcl hq1 hq2 hq3 hq4 hq5 hq6 hnum1 hnum6 hst2 hst3 hst5 h1 h2 h3
   go_wp2_with fail
   obtain ⟨bx,hbx⟩:∃ bx,bx=wr.heap.size:=⟨_,rfl⟩
   have s3:=uH ((S2.out.objN (.cells #[aI aK zid,aS fr,aS to,aI aK owner,aI aK epoch,aI aK pend,aI aK tt,aS key,aI aK nw] 125) bx hbx).pull (A:=[_]))
   rw [←hbx]
   clear f0 f1 f2 f3 f4 f5 f6 f7 f8 hgr b1 b2 S2
   refine (H1.out _).mono ?_
   rintro e w1 ⟨bo,bc,rfl,ho,hb⟩
   have s4:=uH (s3.out.grow hb)
   clear s3 hb hbx H1
   go_wp2_with (at_builtin;go_must (refine a0h _ rfl (.tmp 27) (.tmp 30) 47 rfl w.heap.size 5 i0 (aI .u8 0) 1 1 Tryz.underlying47 hii hz0 hz1 hz2 rfl (by decide) _ cur.length _ (bytV cur) rfl s4.out.head bo q1.length bc (bytV q1) rfl ho.none (by rw [a0u,Nat.mul_one]) ho.at.cells (a0x _) (by unfold maxLen;omega) (by omega) (by have:=s4.out.b.size;omega) ?_));intro co c1 w2 hown hgrow hco
   obtain ⟨cur1,hc1⟩:∃ c,c=cur++q1:=⟨_,rfl⟩
   have hcl3:cur1.length≤130000010:=by rw [hc1,lL];omega
   rw [←hc1] at Htk
   rw [←lL,←hc1]
   (have SA:Hid (St w w2 (f0g w.heap.size co c1 cur1::[a0c bx (.cells #[aI aK zid,aS fr,aS to,aI aK owner,aI aK epoch,aI aK pend,aI aK tt,aS key,aI aK nw] 125),a0c w.heap.size (.cells #[aI aK ver,aI aK nx,.slice (some ⟨g,o,none⟩) n zc] 44)])):=(by rw [hc1];exact uH (s4.out.appended hown hgrow hco)));(obtain ⟨d1,d2,-⟩:=SA.out.cells (t:=125) (b:=bx) (cur:=#[aI aK zid,aS fr,aS to,aI aK owner,aI aK epoch,aI aK pend,aI aK tt,aS key,aI aK nw]) (by simp))
   clear hown hgrow hco ho s4 hc1 hcl2 l1
   go_wp2_with fail
   refine (H2.out _ _ _ (b0k w2 fr)).mono ?_
   rintro e w1 ⟨bo,bc,rfl,ho,hb⟩
   have s4:=uH (SA.out.grow ((bytesWorld_below w2 fr).trans (hb.mono (by rw [a0g];omega))))
   clear SA hb d1 d2 H2
   go_wp2_with (at_builtin;go_must (refine a0h _ rfl (.tmp 32) (.tmp 37) 47 rfl w.heap.size 5 i0 (aI .u8 0) 1 1 Tryz.underlying47 hii hz0 hz1 hz2 rfl (by decide) _ cur1.length _ (bytV cur1) rfl s4.out.head bo q2.length bc (bytV q2) rfl ho.none (by rw [a0u,Nat.mul_one]) ho.at.cells (a0x _) (by unfold maxLen;omega) (by omega) (by have:=s4.out.b.size;omega) ?_));intro co c1 w2 hown hgrow hco
   obtain ⟨cur2,hc1⟩:∃ c,c=cur1++q2:=⟨_,rfl⟩
   have hcl3:cur2.length≤130030000:=by rw [hc1,lL];omega
   rw [←hc1] at Htk
   rw [←lL,←hc1]
   (have SB:Hid (St w w2 (f0g w.heap.size co c1 cur2::[a0c bx (.cells #[aI aK zid,aS fr,aS to,aI aK owner,aI aK epoch,aI aK pend,aI aK tt,aS key,aI aK nw] 125),a0c w.heap.size (.cells #[aI aK ver,aI aK nx,.slice (some ⟨g,o,none⟩) n zc] 44)])):=(by rw [hc1];exact uH (s4.out.appended hown hgrow hco)));(obtain ⟨d1,d2,-⟩:=SB.out.cells (t:=125) (b:=bx) (cur:=#[aI aK zid,aS fr,aS to,aI aK owner,aI aK epoch,aI aK pend,aI aK tt,aS key,aI aK nw]) (by simp))
   clear hown hgrow hco ho s4 hc1 l2
   go_wp2_with fail
   refine (H3.out _ _ _ (b0k w2 to)).mono ?_
   rintro e w1 ⟨bo,bc,rfl,ho,hb⟩
   have s4:=uH (SB.out.grow ((bytesWorld_below w2 to).trans (hb.mono (by rw [a0g];omega))))
   clear SB hb d1 d2 H3
   go_wp2_with (at_builtin;go_must (refine a0h _ rfl (.tmp 39) (.tmp 44) 47 rfl w.heap.size 5 i0 (aI .u8 0) 1 1 Tryz.underlying47 hii hz0 hz1 hz2 rfl (by decide) _ cur2.length _ (bytV cur2) rfl s4.out.head bo q3.length bc (bytV q3) rfl ho.none (by rw [a0u,Nat.mul_one]) ho.at.cells (a0x _) (by unfold maxLen;omega) (by omega) (by have:=s4.out.b.size;omega) ?_));intro co c1 w2 hown hgrow hco
   obtain ⟨cur3,hc1⟩:∃ c,c=cur2++q3:=⟨_,rfl⟩
   have hcl3:cur3.length≤130060000:=by rw [hc1,lL];omega
   rw [←hc1] at Htk
   rw [←lL,←hc1]
   (have SC:Hid (St w w2 (f0g w.heap.size co c1 cur3::[a0c bx (.cells #[aI aK zid,aS fr,aS to,aI aK owner,aI aK epoch,aI aK pend,aI aK tt,aS key,aI aK nw] 125),a0c w.heap.size (.cells #[aI aK ver,aI aK nx,.slice (some ⟨g,o,none⟩) n zc] 44)])):=(by rw [hc1];exact uH (s4.out.appended hown hgrow hco)));(obtain ⟨d1,d2,-⟩:=SC.out.cells (t:=125) (b:=bx) (cur:=#[aI aK zid,aS fr,aS to,aI aK owner,aI aK epoch,aI aK pend,aI aK tt,aS key,aI aK nw]) (by simp))
   clear hown hgrow hco ho s4 hc1 l3
   go_wp2_with fail
   refine (f0u [owner,epoch,pend,tt] w2 w2.heap.size 4 _ rfl rfl rfl (by simp) q4 H4.out.symm).mono ?_
   rintro e w1 ⟨bo,bc,rfl,ho,hb⟩
   have s4:=uH (SC.out.grow hb)
   clear SC hb d1 d2 H4
   go_wp2_with (at_builtin;go_must (refine a0h _ rfl (.tmp 46) (.tmp 56) 47 rfl w.heap.size 5 i0 (aI .u8 0) 1 1 Tryz.underlying47 hii hz0 hz1 hz2 rfl (by decide) _ cur3.length _ (bytV cur3) rfl s4.out.head bo q4.length bc (bytV q4) rfl ho.none (by rw [a0u,Nat.mul_one]) ho.at.cells (a0x _) (by unfold maxLen;omega) (by omega) (by have:=s4.out.b.size;omega) ?_));intro co c1 w2 hown hgrow hco
   obtain ⟨cur4,hc1⟩:∃ c,c=cur3++q4:=⟨_,rfl⟩
   have hcl3:cur4.length≤130070000:=by rw [hc1,lL];omega
   rw [←hc1] at Htk
   rw [←lL,←hc1]
   (have SD:Hid (St w w2 (f0g w.heap.size co c1 cur4::[a0c bx (.cells #[aI aK zid,aS fr,aS to,aI aK owner,aI aK epoch,aI aK pend,aI aK tt,aS key,aI aK nw] 125),a0c w.heap.size (.cells #[aI aK ver,aI aK nx,.slice (some ⟨g,o,none⟩) n zc] 44)])):=(by rw [hc1];exact uH (s4.out.appended hown hgrow hco)));(obtain ⟨d1,d2,-⟩:=SD.out.cells (t:=125) (b:=bx) (cur:=#[aI aK zid,aS fr,aS to,aI aK owner,aI aK epoch,aI aK pend,aI aK tt,aS key,aI aK nw]) (by simp))
   clear hown hgrow hco ho s4 hc1 l4
   go_wp2_with fail
   refine (H5.out _ _ _ (b0k w2 key)).mono ?_
   rintro e w1 ⟨bo,bc,rfl,ho,hb⟩
   have s4:=uH (SD.out.grow ((bytesWorld_below w2 key).trans (hb.mono (by rw [a0g];omega))))
   clear SD hb d1 d2 H5
   go_wp2_with (at_builtin;go_must (refine a0h _ rfl (.tmp 58) (.tmp 62) 47 rfl w.heap.size 5 i0 (aI .u8 0) 1 1 Tryz.underlying47 hii hz0 hz1 hz2 rfl (by decide) _ cur4.length _ (bytV cur4) rfl s4.out.head bo q5.length bc (bytV q5) rfl ho.none (by rw [a0u,Nat.mul_one]) ho.at.cells (a0x _) (by unfold maxLen;omega) (by omega) (by have:=s4.out.b.size;omega) ?_));intro co c1 w2 hown hgrow hco
   obtain ⟨cur5,hc1⟩:∃ c,c=cur4++q5:=⟨_,rfl⟩
   have hcl3:cur5.length≤130100000:=by rw [hc1,lL];omega
   rw [←hc1] at Htk
   rw [←lL,←hc1]
   (have SE:Hid (St w w2 (f0g w.heap.size co c1 cur5::[a0c bx (.cells #[aI aK zid,aS fr,aS to,aI aK owner,aI aK epoch,aI aK pend,aI aK tt,aS key,aI aK nw] 125),a0c w.heap.size (.cells #[aI aK ver,aI aK nx,.slice (some ⟨g,o,none⟩) n zc] 44)])):=(by rw [hc1];exact uH (s4.out.appended hown hgrow hco)));(obtain ⟨d1,d2,-⟩:=SE.out.cells (t:=125) (b:=bx) (cur:=#[aI aK zid,aS fr,aS to,aI aK owner,aI aK epoch,aI aK pend,aI aK tt,aS key,aI aK nw]) (by simp))
   clear hown hgrow hco ho s4 hc1 l5
   go_wp2_with fail
   refine (H6.out _).mono ?_
   rintro e w1 ⟨bo,bc,rfl,ho,hb⟩
   have s4:=uH (SE.out.grow hb)
   clear SE hb d1 d2 H6
   go_wp2_with (at_builtin;go_must (refine a0h _ rfl (.tmp 64) (.tmp 67) 47 rfl w.heap.size 5 i0 (aI .u8 0) 1 1 Tryz.underlying47 hii hz0 hz1 hz2 rfl (by decide) _ cur5.length _ (bytV cur5) rfl s4.out.head bo q6.length bc (bytV q6) rfl ho.none (by rw [a0u,Nat.mul_one]) ho.at.cells (a0x _) (by unfold maxLen;omega) (by omega) (by have:=s4.out.b.size;omega) ?_));intro co c1 w2 hown hgrow hco
   obtain ⟨cur6,hc1⟩:∃ c,c=cur5++q6:=⟨_,rfl⟩
   have hcl3:cur6.length≤130110000:=by rw [hc1,lL];omega
   rw [←hc1] at Htk
   rw [←lL,←hc1]
   (have SF:Hid (St w w2 (f0g w.heap.size co c1 cur6::[a0c bx (.cells #[aI aK zid,aS fr,aS to,aI aK owner,aI aK epoch,aI aK pend,aI aK tt,aS key,aI aK nw] 125),a0c w.heap.size (.cells #[aI aK ver,aI aK nx,.slice (some ⟨g,o,none⟩) n zc] 44)])):=(by rw [hc1];exact uH (s4.out.appended hown hgrow hco)));(obtain ⟨d1,d2,-⟩:=SF.out.cells (t:=125) (b:=bx) (cur:=#[aI aK zid,aS fr,aS to,aI aK owner,aI aK epoch,aI aK pend,aI aK tt,aS key,aI aK nw]) (by simp))
   clear hown hgrow hco ho s4 hc1 l6
   have S7:Hid (St w w2 [f0g w.heap.size co c1 cur6,a0c w.heap.size (.cells #[aI aK ver,aI aK nx,.slice (some ⟨g,o,none⟩) n zc] 44)]):=uH (SF.out.pull (A:=[_])).drop
   clear SF d1 d2
   go_wp2_with fail
   go_roundw
   case rel=>exact ⟨k+1,co,c1,cur6,by go_num,rfl,by omega,uH Htk.out.symm,S7⟩
   case measure=>simp [intOf];omega
  ·obtain rfl:n=k:=by omega
   have hX:cur=encM m:=by
    rw [HE.out,Hcur.out,show m.zs.take n=m.zs from by rw [Hn.out,List.take_length]]
   have HX:=uH hX
   clear hX
   go_wp2_with fail
   go_ret
   rw [←HX.out]
   exact ⟨bo,bc,rfl,S2.out.head,S2.out.b⟩
end Go.Proofs.YtogamdaomdoapaaGreat.O