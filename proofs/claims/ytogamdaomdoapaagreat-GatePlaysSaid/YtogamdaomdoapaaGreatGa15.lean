/- Texts put together: ODc, RdOld. -/
import Derived.Test.YtogamdaomdoapaaGreatGa09
import Derived.Test.YtogamdaomdoapaaGreatGa14
namespace Go.Proofs.YtogamdaomdoapaaGreat.O
open Go.Value renaming int→aI,string→aS,bool→aB
open Go.IntKind renaming i64→aK
open Go.Lib renaming hid→uH
open Go.RowKit
set_option maxRecDepth 20000
theorem f0q (ao bo:Option Addr) (ca cb:Nat) (a b:List UInt8) (w:World) (ha:BAt w ao a) (hb:BAt w bo b) :
 Calls Tryz.prog 53 #[.slice ao a.length ca,.slice bo b.length cb] w fun e w'=>e=.returned (aB (a==b))∧w=w':=by
 have h1:=b0c ha ca
 have h2:=b0c hb cb
 clear ha hb
 go_enter Tryz.func53,Tryz.ntmps53
 go_wp2_with fail
 go_ret
 exact ⟨rfl,rfl⟩
def n0z (w:World) (l:List UInt8) (good:Value) (bad:Value) (e:Ending) (w':World):Prop:=Below w.heap.size w w' ∧
 if e0f l=true then ∃ zo zc,e=.returned (.tuple #[.agg #[aI aK (decM l).1.ver,aI aK (decM l).1.next,.slice zo (decM l).1.zs.length zc],good])∧ZsAt w' zo (decM l).1.zs∧(zo=none→(decM l).1.zs.length=0∧zc=0) else e=.returned (.tuple #[.agg #[aI aK 0,aI aK 0,.slice none 0 0],bad])
theorem s0f {w:World} {base zc:Nat} {zo:Option Addr} {L:List Zn} (h:w.ownsRow base 125 9 (.slice zo L.length zc) L.length (znR L)):ZsAt w zo L:=fun hp=>by
 have h':=h
 rcases h'.2 with ⟨hv,h0⟩ | ⟨g,c,cur,hv,hg,hh,-⟩
 ·omega
 ·simp only [Value.slice.injEq] at hv
  obtain ⟨rfl,-,-⟩:=hv
  exact ⟨g,0,rfl,OwnZ.atO h⟩
theorem s0g {w:World} {base zc:Nat} {zo:Option Addr} {L:List Zn} (h:w.ownsRow base 125 9 (.slice zo L.length zc) L.length (znR L)):zo=none→L.length=0∧zc=0:=fun e=>by
 subst e
 rcases h.2 with ⟨hv,h0⟩ | ⟨g,c,cur,hv,-⟩
 ·simp only [Value.slice.injEq,true_and] at hv
  exact hv
 ·simp at hv
set_option maxHeartbeats 4000000 in
theorem o0v (ao:Option Addr) (cap:Nat) (l:List UInt8) (w:World) (h0:ao=none→l.length=0∧cap=0) (ha:BAt w ao l) (hm:l.length≤18000) :
 Calls Tryz.prog 84 #[.slice ao l.length cap] w (n0z w l (aI aK 0) (aI aK 3)):=by
 have Ha:=uH ha
 have H0:=uH h0
 obtain ⟨i0,hii,hz0,hz1,hz2⟩:=info_parts o0b
 clear ha h0
 go_enter Tryz.func84,Tryz.ntmps84
 go_wp2_with fail
 have S0:Hid (St w _ [a0c (w.heap.size+1) (.cells #[aI aK 0,aI aK 0,.slice none 0 0] 44),a0c w.heap.size (.cells #[aI aK 0,aI aK 0,.slice none 0 0] 44)]):=((St.start w).objN (.cells #[aI aK 0,aI aK 0,.slice none 0 0] 44) w.heap.size rfl).objN (.cells #[aI aK 0,aI aK 0,.slice none 0 0] 44) (w.heap.size+1) (by simp)
 refine (d0u ao cap l _ H0.out (Ha.out.below S0.out.b) (by omega)).mono ?_
 rintro e w1 ⟨p,g,rfl,hr,hb,hp,hg⟩
 have S1:=uH (S0.out.x0d hr hb hp hg)
 clear S0 hr hb hp hg
 go_wp2_with fail
 refine (St.f0b (O:=[(w.heap.size+1,#[aI aK 0,aI aK 0,.slice none 0 0],44),(w.heap.size,#[aI aK 0,aI aK 0,.slice none 0 0],44)]) (L:=[]) S1.out (by omega) [(0,0),(0,1)] ?_ w1.heap.size 2 rfl rfl (by simp) _ _ rfl).mono ?_
 ·intro q hq
  simp only [List.mem_cons,List.not_mem_nil,or_false] at hq
  rcases hq with rfl | rfl<;>exact ⟨_,_,rfl,rfl⟩
 rintro e w2 ⟨rfl,hS⟩
 obtain ⟨ver,hver⟩:∃ v,v=a0j l false 0:=⟨_,rfl⟩
 obtain ⟨nx,hnx⟩:∃ v,v=a0j l false 1:=⟨_,rfl⟩
 have S2:Hid (St w w2 [thRd p g (rdSt l false 2).1 (rdSt l false 2).2,a0c (w.heap.size+1) (.cells #[aI aK (ver:Nat),aI aK (nx:Nat),.slice none 0 0] 44),a0c w.heap.size (.cells #[aI aK 0,aI aK 0,.slice none 0 0] 44)]):=by
  rw [hver,hnx]
  exact hS
 have Hver:=uH hver
 have Hnx:=uH hnx
 clear hS S1 hver hnx
 go_wp2_with fail
 have hl2:=b0f l false 2
 have hcall:=St.q0e S2.out (by omega)
 rw [b0j l false 2 3 rfl] at hcall
 refine hcall.mono ?_
 rintro e w3 ⟨rfl,hS⟩
 have S3:=uH hS
 have HI:=uH (RdI.start l)
 obtain ⟨r,b,hrb⟩:∃ r b,rdSt l false 3=(r,b):=⟨_,_,rfl⟩
 obtain ⟨j,hj⟩:∃ j,j=a0j l false 2:=⟨_,rfl⟩
 dsimp only at S3 ⊢
 rw [hrb] at S3 HI
 rw [←hj] at HI ⊢
 dsimp only at S3 HI
 have hjl:j≤4611686018427387904:=by rw [hj];exact d0i _ _ _
 clear hcall hS S2 hl2 hrb hj
 go_wp2_with fail
 go_loopw [6] (fun s wr=>∃ (j:Nat) (r:List UInt8) (b:Bool) (L:List Zn) (zo:Option Addr) (zc:Nat),s=aI aK j∧j≤4611686018427387904∧Hid (RdI l j L r b)∧Hid (St w wr [thRd p g r b,a0c (w.heap.size+1) (.cells #[aI aK (ver:Nat),aI aK (nx:Nat),.slice zo L.length zc] 44),c0f w.heap.size 125 9 zo L.length zc (znR L),a0c w.heap.size (.cells #[aI aK 0,aI aK 0,.slice none 0 0] 44)])) (fun s _=>(intOf s).toNat)
 case atStart=>exact ⟨j,r,b,[],none,0,rfl,hjl,HI,uH ((S3.out.m0h _ _).perm (by refine (List.Perm.swap _ _ _).trans (List.Perm.cons _ (List.Perm.swap _ _ _))))⟩
 case round =>
  clear S3 HI hjl
  obtain ⟨j,r,b,L,zo,zc,rfl,hjl,HI,S3⟩:=hrel
  by_cases hgo:0<j∧b=false
  ·obtain ⟨hj0,rfl⟩:=hgo
   have hji:(0:Int)<j:=by omega
   have hgd:=n0r p g r false wr S3.out.head
   obtain ⟨j,rfl⟩:∃ k,j=k+1:=⟨j - 1,by omega⟩
   go_wp2_with fail
   refine hgd.mono ?_
   rintro e w4 ⟨rfl,rfl⟩
   obtain ⟨zid,fr,to,owner,epoch,pend,tt,key,nw,r1,b1,r2,b2,r3,b3,r4,b4,r5,b5,r6,b6,hz⟩:=zis r false
   have Hz:=uH hz
   have hrl:r.length≤18000:=by have:=HI.out.left;omega
   clear hz hgd
   go_wp2_with fail
   obtain ⟨bx,hbx⟩:∃ bx,bx=wr.heap.size:=⟨_,rfl⟩
   have S4:Hid (St w _ [thRd p g r false,a0c bx (.cells #[aI aK 0,aS ⟨#[]⟩,aS ⟨#[]⟩,aI aK 0,aI aK 0,aI aK 0,aI aK 0,aS ⟨#[]⟩,aI aK 0] 125),a0c (w.heap.size+1) (.cells #[aI aK (ver:Nat),aI aK (nx:Nat),.slice zo L.length zc] 44),c0f w.heap.size 125 9 zo L.length zc (znR L),a0c w.heap.size (.cells #[aI aK 0,aI aK 0,.slice none 0 0] 44)]):=uH ((S3.out.objN (.cells #[aI aK 0,aS ⟨#[]⟩,aS ⟨#[]⟩,aI aK 0,aI aK 0,aI aK 0,aI aK 0,aS ⟨#[]⟩,aI aK 0] 125) bx hbx).pull (A:=[_]))
   have hbl:w.heap.size+1<bx:=by rw [hbx];exact (S3.out.a0b 1 rfl).1
   rw [←hbx]
   clear S3 hbx
   have hcall:=St.q0e S4.out (by omega)
   rw [Hz.out.e1] at hcall
   refine hcall.mono ?_
   rintro e w5 ⟨rfl,hS⟩
   have T:=uH hS
   obtain ⟨c1,c2,c3⟩:=T.out.a0b 1 rfl
   clear hcall hS S4
   go_wp2_with fail
   have S5:Hid (St w (w5.setCell ⟨bx,0,none⟩ (aI aK (zid:Nat))) [thRd p g r1 b1,a0c bx (.cells #[aI aK (zid:Nat),aS ⟨#[]⟩,aS ⟨#[]⟩,aI aK 0,aI aK 0,aI aK 0,aI aK 0,aS ⟨#[]⟩,aI aK 0] 125),a0c (w.heap.size+1) (.cells #[aI aK (ver:Nat),aI aK (nx:Nat),.slice zo L.length zc] 44),c0f w.heap.size 125 9 zo L.length zc (znR L),a0c w.heap.size (.cells #[aI aK 0,aI aK 0,.slice none 0 0] 44)]):=uH (((T.out.pull (A:=[_])).setObj 0 (aI aK (zid:Nat))).pull (A:=[_]))
   clear T c1 c2 c3
   have hcall:=St.c0u S5.out (by have:=Hz.out.l1;omega)
   rw [Hz.out.e2] at hcall
   refine hcall.mono ?_
   rintro e w6 ⟨yo,yc,rfl,ho,hS⟩
   have T:=uH hS
   obtain ⟨c1,c2,c3⟩:=T.out.a0b 1 rfl
   have hcv:=b0c ho.at yc
   clear hcall hS S5 ho
   go_wp2_with fail
   have S6:Hid (St w (w6.setCell ⟨bx,1,none⟩ (aS ⟨fr.toArray⟩)) [thRd p g r2 b2,a0c bx (.cells #[aI aK (zid:Nat),aS ⟨fr.toArray⟩,aS ⟨#[]⟩,aI aK 0,aI aK 0,aI aK 0,aI aK 0,aS ⟨#[]⟩,aI aK 0] 125),a0c (w.heap.size+1) (.cells #[aI aK (ver:Nat),aI aK (nx:Nat),.slice zo L.length zc] 44),c0f w.heap.size 125 9 zo L.length zc (znR L),a0c w.heap.size (.cells #[aI aK 0,aI aK 0,.slice none 0 0] 44)]):=uH (((T.out.pull (A:=[_])).setObj 1 (aS ⟨fr.toArray⟩)).pull (A:=[_]))
   clear T c1 c2 c3 hcv
   have hcall:=St.c0u S6.out (by have:=Hz.out.l2;omega)
   rw [Hz.out.e3] at hcall
   refine hcall.mono ?_
   rintro e w7 ⟨yo,yc,rfl,ho,hS⟩
   have T:=uH hS
   obtain ⟨c1,c2,c3⟩:=T.out.a0b 1 rfl
   have hcv:=b0c ho.at yc
   clear hcall hS S6 ho
   go_wp2_with fail
   have S7:Hid (St w (w7.setCell ⟨bx,2,none⟩ (aS ⟨to.toArray⟩)) [thRd p g r3 b3,a0c bx (.cells #[aI aK (zid:Nat),aS ⟨fr.toArray⟩,aS ⟨to.toArray⟩,aI aK 0,aI aK 0,aI aK 0,aI aK 0,aS ⟨#[]⟩,aI aK 0] 125),a0c (w.heap.size+1) (.cells #[aI aK (ver:Nat),aI aK (nx:Nat),.slice zo L.length zc] 44),c0f w.heap.size 125 9 zo L.length zc (znR L),a0c w.heap.size (.cells #[aI aK 0,aI aK 0,.slice none 0 0] 44)]):=uH (((T.out.pull (A:=[_])).setObj 2 (aS ⟨to.toArray⟩)).pull (A:=[_]))
   clear T c1 c2 c3 hcv
   refine (St.f0b (O:=[(bx,#[aI aK (zid:Nat),aS ⟨fr.toArray⟩,aS ⟨to.toArray⟩,aI aK 0,aI aK 0,aI aK 0,aI aK 0,aS ⟨#[]⟩,aI aK 0],125)]) (L:=[a0c (w.heap.size+1) (.cells #[aI aK (ver:Nat),aI aK (nx:Nat),.slice zo L.length zc] 44),c0f w.heap.size 125 9 zo L.length zc (znR L),a0c w.heap.size (.cells #[aI aK 0,aI aK 0,.slice none 0 0] 44)]) S7.out (by have:=Hz.out.l3;omega) [(0,3),(0,4),(0,5),(0,6)] ?_ w7.heap.size 4 (by simp [World.setCell]) rfl (by simp) _ _ rfl).mono ?_
   ·intro q hq
    simp only [List.mem_cons,List.not_mem_nil,or_false] at hq
    rcases hq with rfl | rfl | rfl | rfl<;>exact ⟨_,_,rfl,rfl⟩
   rintro e w8 ⟨rfl,hS⟩
   have S8:Hid (St w w8 [thRd p g r4 b4,a0c bx (.cells #[aI aK (zid:Nat),aS ⟨fr.toArray⟩,aS ⟨to.toArray⟩,aI aK (owner:Nat),aI aK (epoch:Nat),aI aK (pend:Nat),aI aK (tt:Nat),aS ⟨#[]⟩,aI aK 0] 125),a0c (w.heap.size+1) (.cells #[aI aK (ver:Nat),aI aK (nx:Nat),.slice zo L.length zc] 44),c0f w.heap.size 125 9 zo L.length zc (znR L),a0c w.heap.size (.cells #[aI aK 0,aI aK 0,.slice none 0 0] 44)]):=by
    rw [Hz.out.v0,Hz.out.v1,Hz.out.v2,Hz.out.v3]
    have h:=hS
    rw [Hz.out.e4] at h
    exact uH h
   clear hS S7
   go_wp2_with fail
   have hcall:=St.c0u S8.out (by have:=Hz.out.l4;omega)
   rw [Hz.out.e5] at hcall
   refine hcall.mono ?_
   rintro e w9 ⟨yo,yc,rfl,ho,hS⟩
   have T:=uH hS
   obtain ⟨c1,c2,c3⟩:=T.out.a0b 1 rfl
   have hcv:=b0c ho.at yc
   clear hcall hS S8 ho
   go_wp2_with fail
   have S9:Hid (St w (w9.setCell ⟨bx,7,none⟩ (aS ⟨key.toArray⟩)) [thRd p g r5 b5,a0c bx (.cells #[aI aK (zid:Nat),aS ⟨fr.toArray⟩,aS ⟨to.toArray⟩,aI aK (owner:Nat),aI aK (epoch:Nat),aI aK (pend:Nat),aI aK (tt:Nat),aS ⟨key.toArray⟩,aI aK 0] 125),a0c (w.heap.size+1) (.cells #[aI aK (ver:Nat),aI aK (nx:Nat),.slice zo L.length zc] 44),c0f w.heap.size 125 9 zo L.length zc (znR L),a0c w.heap.size (.cells #[aI aK 0,aI aK 0,.slice none 0 0] 44)]):=uH (((T.out.pull (A:=[_])).setObj 7 (aS ⟨key.toArray⟩)).pull (A:=[_]))
   clear T c1 c2 c3 hcv
   have hcall:=St.q0e S9.out (by have:=Hz.out.l5;omega)
   rw [Hz.out.e6] at hcall
   refine hcall.mono ?_
   rintro e w10 ⟨rfl,hS⟩
   have T:=uH hS
   obtain ⟨c1,c2,c3⟩:=T.out.a0b 1 rfl
   clear hcall hS S9
   have SA:Hid (St w (w10.setCell ⟨bx,8,none⟩ (aI aK (nw:Nat))) [thRd p g r6 b6,a0c bx (.cells #[aI aK (zid:Nat),aS ⟨fr.toArray⟩,aS ⟨to.toArray⟩,aI aK (owner:Nat),aI aK (epoch:Nat),aI aK (pend:Nat),aI aK (tt:Nat),aS ⟨key.toArray⟩,aI aK (nw:Nat)] 125),a0c (w.heap.size+1) (.cells #[aI aK (ver:Nat),aI aK (nx:Nat),.slice zo L.length zc] 44),c0f w.heap.size 125 9 zo L.length zc (znR L),a0c w.heap.size (.cells #[aI aK 0,aI aK 0,.slice none 0 0] 44)]):=uH (((T.out.pull (A:=[_])).setObj 8 (aI aK (nw:Nat))).pull (A:=[_]))
   have hrow:(w10.setCell ⟨bx,8,none⟩ (aI aK (nw:Nat))).ownsRow w.heap.size 125 9 (.slice zo L.length zc) L.length (znR L):=SA.out.mem (t:=c0f w.heap.size 125 9 zo L.length zc (znR L)) (by simp)
   obtain ⟨m1,m2,m3⟩:=T.out.a0b 2 rfl
   obtain ⟨z,hzz⟩:∃ z:Zn,z=⟨zid,txt fr,txt to,owner,epoch,pend,tt,txt key,nw⟩:=⟨_,rfl⟩
   have Hzz:=uH hzz
   clear hzz
   have hne:¬w.heap.size+1=bx:=by omega
   have hne2:¬bx=w.heap.size+1:=by omega
   have hLl:L.length≤2010:=by have:=HI.out.len;omega
   have hwz:=SA.out.b.size
   clear T
   go_wp2_with (at_builtin;go_must (refine a0h _ rfl (.tmp 53) (.tmp 55) 42 rfl w.heap.size 125 i0 (.agg zz9) 9 96 Tryz.underlying42 hii hz0 hz1 hz2 rfl (by decide) zo L.length zc _ rfl (hrow.alloc _) (some ⟨w10.heap.size,0,none⟩) 1 1 (znV z) rfl (fun h=>by cases h) rfl ?news (u0t z) (by unfold maxLen;omega) (by omega) (by simp [World.setCell] at hwz ⊢;omega) ?_))
   case news=>rw [Hzz.out];exact q0n _ _ (by simp [World.setCell]) _ _
   intro co c' w11 hown hgrow hco
   have SB:Hid (St w w11 [c0f w.heap.size 125 9 co (L.length+1) c' (znR L++znV z),a0c w10.heap.size (.cells #[aI aK (zid:Nat),aS ⟨fr.toArray⟩,aS ⟨to.toArray⟩,aI aK (owner:Nat),aI aK (epoch:Nat),aI aK (pend:Nat),aI aK (tt:Nat),aS ⟨key.toArray⟩,aI aK (nw:Nat)] 125),thRd p g r6 b6,a0c bx (.cells #[aI aK (zid:Nat),aS ⟨fr.toArray⟩,aS ⟨to.toArray⟩,aI aK (owner:Nat),aI aK (epoch:Nat),aI aK (pend:Nat),aI aK (tt:Nat),aS ⟨key.toArray⟩,aI aK (nw:Nat)] 125),a0c (w.heap.size+1) (.cells #[aI aK (ver:Nat),aI aK (nx:Nat),.slice zo L.length zc] 44),a0c w.heap.size (.cells #[aI aK 0,aI aK 0,.slice none 0 0] 44)]):=by
    have s1:=SA.out.objN (.cells #[aI aK (zid:Nat),aS ⟨fr.toArray⟩,aS ⟨to.toArray⟩,aI aK (owner:Nat),aI aK (epoch:Nat),aI aK (pend:Nat),aI aK (tt:Nat),aS ⟨key.toArray⟩,aI aK (nw:Nat)] 125) w10.heap.size (by simp [World.setCell])
    exact uH ((s1.pull (A:=[_,_,_,_])).g0a (m:=1) hown hgrow (fun a ha=>(hco a ha).imp id (fun h=>by simp [World.setCell] at h ⊢;omega)))
   obtain ⟨n1,n2,n3⟩:=SB.out.a0b 4 rfl
   have SC:Hid (St w (w11.setCell ⟨w.heap.size+1,2,none⟩ (.slice co (L.length+1) c')) [thRd p g r6 b6,a0c (w.heap.size+1) (.cells #[aI aK (ver:Nat),aI aK (nx:Nat),.slice co ((L++[z]).length) c'] 44),c0f w.heap.size 125 9 co (L++[z]).length c' (znR (L++[z])),a0c w.heap.size (.cells #[aI aK 0,aI aK 0,.slice none 0 0] 44)]):=by
    have e1:(L++[z]).length=L.length+1:=by simp
    have e2:znR (L++[z])=znR L++znV z:=by rw [l0u,e0z,u0v,List.append_nil]
    rw [e1,e2]
    have s1:=(SB.out.pull (A:=[_,_,_,_])).setObj 2 (.slice co (L.length+1) c')
    have s2:=(s1.pull (A:=[_,_])).drop
    have s3:=(s2.pull (A:=[_,_,_])).drop
    exact uH (s3.pull (A:=[_,_]))
   have HI2:=uH (HI.out.next Hz.out)
   clear hown hgrow hco SA SB hrow m1 m2 m3 hne hne2 c1 c2 c3
   go_wp2_with fail
   go_roundw
   case rel=>exact ⟨j,r6,b6,L++[z],co,c',by go_num,by omega,by rw [Hzz.out];exact HI2,SC⟩
   case measure=>simp [intOf]
  ·have HD:=uH (HI.out.done (by
    by_cases h:0<j
    ·exact .inr (by cases b with | true=>rfl | false=>exact absurd ⟨h,rfl⟩ hgo)
    ·exact .inl (by omega)))
   have hrl:r.length≤18000:=by have:=HI.out.left;omega
   have hLl:L.length≤2010:=by have:=HI.out.len;omega
   have Hsz:=uH HI.out.sz
   by_cases hj0:0<j
   case' pos =>
    have hb:b=true:=by cases b with | true=>rfl | false=>exact absurd ⟨hj0,rfl⟩ hgo
    have hji:(0:Int)<j:=by omega
    have hgd:=n0r p g r b wr S3.out.head
    rw [hb] at hgd
    go_wp2_with fail
    refine hgd.mono ?_
    rintro e w4 ⟨rfl,rfl⟩
    clear hgd hb
    go_wp2_with fail
   case' neg =>
    go_wp2_with fail
   all_goals
    clear hgo hj0
    have hwh:=f0m p g r b wr S3.out.head (by omega)
    have HW:Hid (h0n (decM l).2=(!b&&r.isEmpty)):=by rw [HD.out];exact uH rfl
    obtain ⟨q,hq⟩:∃ q,q=(!b&&r.isEmpty):=⟨_,rfl⟩
    rw [←hq] at hwh HW
    clear hq
    obtain ⟨u1,u2,u3⟩:=S3.out.a0b 3 rfl
    obtain ⟨x1,x2,x3⟩:=S3.out.a0b 1 rfl
    have wr_b:=S3.out.b
    cases q with
    | false =>
     have HG:Hid (e0f l=false):=by unfold e0f;rw [HW.out];exact uH rfl
     refine hwh.mono ?_
     rintro e w4 ⟨rfl,rfl⟩
     clear hwh
     go_wp2_with fail
     exact bodyPost_ret (v:=.tuple #[.agg #[aI aK 0,aI aK 0,.slice none 0 0],aI aK 3]) (by simp only [results,Tryz.results84];go_simp) rfl ⟨bg,by rw [if_neg (by rw [HG.out];simp)]⟩
    | true =>
     have hrow:wr.ownsRow w.heap.size 125 9 (.slice zo L.length zc) L.length (znR L):=S3.out.mem (t:=c0f w.heap.size 125 9 zo L.length zc (znR L)) (by simp)
     have Hzs:Hid (ZsAt wr zo L):=s0f hrow
     have hmay:=pmay_any zo zc ⟨ver,nx,L⟩ wr (by simp only;omega) Hzs.out (fun z hz=>(Hsz.out z hz).2.2.2)
     have HM:Hid ((decM l).1=⟨ver,nx,L⟩):=by rw [HD.out,Hver.out,Hnx.out];exact uH rfl
     obtain ⟨qm,hqm⟩:∃ qm,qm=mayM ⟨ver,nx,L⟩:=⟨_,rfl⟩
     have HG:Hid (e0f l=qm):=by unfold e0f;rw [HW.out,HM.out,hqm];exact uH (by simp)
     have hcan:encM ⟨ver,nx,L⟩=l:=by rw [←HM.out];exact l0n HW.out
     have hpe:=fun (w5:World) (hb:Below wr.heap.size wr w5)=>k0u zo zc ⟨ver,nx,L⟩ w5 (Hzs.out.grow hb) ⟨by simp only;omega,fun z hz=>by have:=Hsz.out z hz;omega⟩
     rw [hcan] at hpe
     rw [←hqm] at hmay
     dsimp only at hmay hpe
     have Hpe:=uH hpe
     have Hmay:=uH hmay
     clear hrow hqm hcan hpe hmay
     go_wp2_with fail
     refine hwh.mono ?_
     rintro e w4 ⟨rfl,rfl⟩
     clear hwh
     go_wp2_with fail
     refine Hmay.out.mono ?_
     rintro e w5 ⟨rfl,hb5⟩
     have S4:=uH (S3.out.grow hb5)
     have Hb5:=uH hb5
     have w5_b:=S4.out.b
     obtain ⟨u1,u2,u3⟩:=S4.out.a0b 3 rfl
     obtain ⟨x1,x2,x3⟩:=S4.out.a0b 1 rfl
     clear hb5 S3
     cases qm with
     | false =>
      go_wp2_with fail
      exact bodyPost_ret (v:=.tuple #[.agg #[aI aK 0,aI aK 0,.slice none 0 0],aI aK 3]) (by simp only [results,Tryz.results84];go_simp) rfl ⟨bg,by rw [if_neg (by rw [HG.out];simp)]⟩
     | true =>
      go_wp2_with fail
      refine (Hpe.out w5 Hb5.out).mono ?_
      rintro e w6 ⟨co,cc,rfl,ho,hb6⟩
      have S5:=uH (S4.out.grow hb6)
      have Ho:=uH ho
      have w6_b:=S5.out.b
      obtain ⟨u1,u2,u3⟩:=S5.out.a0b 3 rfl
      obtain ⟨x1,x2,x3⟩:=S5.out.a0b 1 rfl
      have heq:=f0q co ao cc cap l l w6 Ho.out.at (Ha.out.below S5.out.b)
      rw [beq_self_eq_true] at heq
      clear hb6 ho S4
      go_wp2_with fail
      refine heq.mono ?_
      rintro e w7 ⟨rfl,rfl⟩
      clear heq
      go_wp2_with fail
      have S6:=uH ((((S5.out.pull (A:=[_,_,_])).setObj 0 (aI aK (ver:Nat))).setObj 1 (aI aK (nx:Nat))).setObj 2 (.slice zo L.length zc))
      refine bodyPost_ret (v:=.tuple #[.agg #[aI aK (ver:Nat),aI aK (nx:Nat),.slice zo L.length zc],aI aK 0]) (by simp only [results,Tryz.results84];go_simp) rfl ⟨bg,?_⟩
      rw [if_pos HG.out,HM.out]
      have hrow:=S6.out.mem (t:=c0f w.heap.size 125 9 zo L.length zc (znR L)) (by simp)
      exact ⟨zo,zc,rfl,s0f hrow,s0g hrow⟩
end Go.Proofs.YtogamdaomdoapaaGreat.O
namespace Go.Proofs.YtogamdaomdoapaaGreat
open Go.Value renaming int→aI,string→aS,bool→aB
open Go.IntKind renaming i64→aK
open Go.Lib renaming hid→uH
open Go.RowKit
set_option maxRecDepth 20000
def thRO (W:World) (p g:Nat) (rest:List UInt8) (bad:Bool):Th where
 T w:=(bad=true→rest=[])∧∃ ao cap,w.heap[p]?=some (.cells #[.slice ao rest.length cap,aB bad] 118 (0,0))∧rest.length≤cap∧cap≤9223372036854775807∧(ao=none→rest.length=0∧cap=0)∧g≠p∧(0<rest.length→∃ off,ao=some ⟨g,off,none⟩∧g<W.heap.size∧BRow W g off rest)
 F x:=x=p
 stay h k hS:=by
  obtain ⟨h0,ao,cap,h1,r⟩:=h
  exact ⟨h0,ao,cap,(k.block p (lt_of_block h1) (hS p rfl)).trans h1,r⟩
 lt h e:=by
  obtain ⟨h0,ao,cap,h1,r⟩:=h
  exact e▸lt_of_block h1
theorem RO.rr {W w:World} {p g:Nat} {rest:List UInt8} {bad:Bool} (h:(thRO W p g rest bad).T w) (b:Below W.heap.size W w):RRAt w p g rest bad:=by
 obtain ⟨h0,ao,cap,h1,h2,h3,h4,h5,h6⟩:=h
 refine ⟨h0,ao,cap,h1,h2,h3,h4,h5,fun hl=>?_⟩
 obtain ⟨off,e,hg,hr⟩:=h6 hl
 exact ⟨off,e,Nat.lt_of_lt_of_le hg b.size,hr.below hg b⟩
theorem RO.of {W w:World} {p g:Nat} {rest:List UInt8} {bad:Bool} (h:RRAt w p g rest bad) (b:Below W.heap.size W w) (hg:0<rest.length→g<W.heap.size):(thRO W p g rest bad).T w:=by
 obtain ⟨h0,ao,cap,h1,h2,h3,h4,h5,h6⟩:=h
 refine ⟨h0,ao,cap,h1,h2,h3,h4,h5,fun hl=>?_⟩
 obtain ⟨off,e,-,hr⟩:=h6 hl
 exact ⟨off,e,hg hl,fun i hi=>(b.cell (p:=⟨g,_,none⟩) (hg hl)).symm.trans (hr i hi)⟩
theorem RO.old {W w:World} {p g:Nat} {rest:List UInt8} {bad:Bool} (h:(thRO W p g rest bad).T w) (hl:0<rest.length):g<W.heap.size:=by
 obtain ⟨h0,ao,cap,h1,h2,h3,h4,h5,h6⟩:=h
 obtain ⟨off,e,hg,hr⟩:=h6 hl
 exact hg
theorem St.newRO {W w:World} {L:List Th} (h:St W w L) (n:Nat) (hn:n=w.heap.size) (ao:Option Addr) (cap:Nat) (l:List UInt8) (hlc:l.length≤cap) (hcm:cap≤9223372036854775807) (h0:ao=none→l.length=0∧cap=0) (ha:BAt W ao l) :
 ∃ g,St W (w.alloc (.cells #[.slice ao l.length cap,aB false] 118)) (thRO W n g l false::L):=by
 subst hn
 have hW:=h.b.size
 have key:∀ g,g≠w.heap.size→(0<l.length→∃ off,ao=some ⟨g,off,none⟩∧g<W.heap.size∧BRow W g off l)→St W (w.alloc (.cells #[.slice ao l.length cap,aB false] 118)) (thRO W w.heap.size g l false::L):=fun g hg hl =>
  h.new (a0p _ _) (thRO W w.heap.size g l false) ⟨fun e=>(nomatch e),ao,cap,b0r w _,hlc,hcm,h0,hg,hl⟩ (fun x hx=>by have hx:x=w.heap.size:=hx;rw [hx];exact Nat.le_refl _)
 by_cases hp:0<l.length
 ·obtain ⟨b,off,e,hb,hr⟩:=ha hp
  exact ⟨b,key b (by omega) (fun _=>⟨off,e,hb,hr⟩)⟩
 ·exact ⟨w.heap.size+1,key _ (by omega) (fun h=>absurd h hp)⟩
theorem St.r0u {W w w':World} {L:List Th} {p g:Nat} {rest rest':List UInt8} {bad bad':Bool} (h:St W w (thRO W p g rest bad::L)) (hr:RRAt w' p g rest' bad') (k:Keeps w w' (fun x=>x=p)) (hl:rest'.length≤rest.length):St W w' (thRO W p g rest' bad'::L):=by
 have hb:Below W.heap.size W w':=h.b.trans (k.below (fun x hx=>by rw [hx];exact h.t.2.1 p rfl) h.b.size)
 exact h.step k _ (RO.of hr hb (fun hp=>RO.old h.head (by omega))) (fun x hx=>.inl hx)
theorem St.b0g {W w:World} {L:List Th} {p g:Nat} {rest:List UInt8} {bad:Bool} (h:St W w (thRO W p g rest bad::L)) (hm:rest.length≤140737488351232) :
 Calls Tryz.prog 60 #[.pointer (some ⟨p,0,none⟩)] w fun e w'=>e=.returned (aI aK ((numT rest bad).1:Nat))∧St W w' (thRO W p g (numT rest bad).2.1 (numT rest bad).2.2::L):=by
 refine (v0v p g rest bad 0 w (RO.rr h.head h.b) hm).mono ?_
 rintro e w' ⟨rfl,hr,hk⟩
 exact ⟨rfl,h.r0u hr hk (e0u _ _).1⟩
theorem St.l0z {W w:World} {L:List Th} {p g:Nat} {rest:List UInt8} {bad:Bool} (h:St W w (thRO W p g rest bad::L)) (hm:rest.length≤140737488351232) :
 Calls Tryz.prog 61 #[.pointer (some ⟨p,0,none⟩)] w fun e w'=>∃ ao cap,e=.returned (.slice ao (a0q rest bad).1.length cap)∧OwnB w' w.heap.size ao cap (a0q rest bad).1∧St W w' (thRO W p g (a0q rest bad).2.1 (a0q rest bad).2.2::L):=by
 refine (f0t p g rest bad w (RO.rr h.head h.b) hm).mono ?_
 rintro e w' ⟨x,r',b',ao,cap,ht,rfl,ho,hr,hk⟩
 rw [←ht]
 exact ⟨ao,cap,rfl,ho,h.r0u hr hk (d0n ht).2⟩
theorem St.r0p {W w:World} {L:List Th} {p g:Nat} {rest:List UInt8} {bad:Bool} (h:St W w (thRO W p g rest bad::L)) :
 Calls Tryz.prog 102 #[.pointer (some ⟨p,0,none⟩)] w fun e w'=>e=.returned (aB (!bad&&rest.isEmpty))∧w'=w:=e0c p g rest bad w (RO.rr h.head h.b)
end Go.Proofs.YtogamdaomdoapaaGreat