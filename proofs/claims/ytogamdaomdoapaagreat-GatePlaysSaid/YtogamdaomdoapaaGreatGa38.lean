/- Texts put together: WRd, WLw, GtA. -/
import Derived.Test.YtogamdaomdoapaaGreatGa13
import Derived.Test.YtogamdaomdoapaaGreatGa25
import Derived.Test.YtogamdaomdoapaaGreatGa27
import Derived.Test.YtogamdaomdoapaaGreatGa30
import Derived.Test.YtogamdaomdoapaaGreatGa33
import Derived.Test.YtogamdaomdoapaaGreatGa37
namespace Go.Proofs.YtogamdaomdoapaaGreat
open Go.Value renaming int→aI,string→aS,bool→aB
open Go.IntKind renaming i64→aK
open List renaming setIfInBounds_toArray→lA,set_cons_zero→lZ,set_cons_succ→lS
open Go.Lib renaming hid→uH
set_option maxRecDepth 20000
open Go.RowKit
theorem rr_newB {w1:World} {base:Nat} {ao:Option Addr} {cap:Nat} {l:List UInt8} (ho:OwnB w1 base ao cap l) (hbase:base≤w1.heap.size):∃ g,base≤g∧RRAt (w1.alloc (.cells #[.slice ao l.length cap,aB false] 118)) w1.heap.size g l false:=by
 by_cases hp:0<l.length
 ·obtain ⟨b,off,e,hb,hr⟩:=ho.at hp
  subst e
  exact ⟨b,(d0a ho b rfl).2,fun e=>(nomatch e),_,cap,b0r w1 _,ho.le.1,ho.le.2,ho.none,by omega,fun _=>⟨off,rfl,by simp;omega,hr.below hb (a0p _ _)⟩⟩
 ·exact ⟨w1.heap.size+1,by omega,fun e=>(nomatch e),ao,cap,b0r w1 _,ho.le.1,ho.le.2,ho.none,by omega,fun h=>absurd h hp⟩
theorem k0t {W w:World} {L:List Th} {p g:Nat} {rest:List UInt8} {bad:Bool} (h:St W w (thRR p g rest bad::L)) (hm:rest.length≤140737488351232) :
 Calls Tryz.prog 61 #[.pointer (some ⟨p,0,none⟩)] w fun e w'=>∃ ao cap,e=.returned (.slice ao (a0q rest bad).1.length cap)∧OwnB w' w.heap.size ao cap (a0q rest bad).1∧St W w' (thRR p g (a0q rest bad).2.1 (a0q rest bad).2.2::L)∧Keeps w w' (fun x=>x=p):=by
 refine (f0t p g rest bad w h.head hm).mono ?_
 rintro e w' ⟨x,r',b',ao,cap,ht,rfl,ho,hr,hk⟩
 rw [←ht]
 exact ⟨ao,cap,rfl,ho,h.readR hr hk (d0n ht).2,hk⟩
structure EightN (p:List UInt8) (k0 k1 k2 k3 k4 k5 k6 k7:Nat) (e1:List UInt8) (b1:Bool) (x1:List UInt8) (y1:Bool) (x2:List UInt8) (y2:Bool) (x3:List UInt8) (y3:Bool) (x4:List UInt8) (y4:Bool) (x5:List UInt8) (y5:Bool) (x6:List UInt8) (y6:Bool) (x7:List UInt8) (y7:Bool):Prop where
 q0:numT p false=(k0,x1,y1)
 q1:numT x1 y1=(k1,x2,y2)
 q2:numT x2 y2=(k2,x3,y3)
 q3:numT x3 y3=(k3,x4,y4)
 q4:numT x4 y4=(k4,x5,y5)
 q5:numT x5 y5=(k5,x6,y6)
 q6:numT x6 y6=(k6,x7,y7)
 q7:numT x7 y7=(k7,e1,b1)
 l0:p.length≤p.length
 l1:x1.length≤p.length
 l2:x2.length≤p.length
 l3:x3.length≤p.length
 l4:x4.length≤p.length
 l5:x5.length≤p.length
 l6:x6.length≤p.length
 l7:x7.length≤p.length
theorem u0o {p:List UInt8} {k0 k1 k2 k3 k4 k5 k6 k7 m0 m1 m2:Nat} {e1:List UInt8} {b1:Bool} {sf e2:List UInt8} {b2:Bool} {st e3:List UInt8} {b3:Bool} {e4:List UInt8} {b4:Bool} {r e5:List UInt8} {b5:Bool} (h:WIs p k0 k1 k2 k3 k4 k5 k6 k7 m0 m1 m2 e1 b1 sf e2 b2 st e3 b3 e4 b4 r e5 b5):∃ x1 y1 x2 y2 x3 y3 x4 y4 x5 y5 x6 y6 x7 y7,EightN p k0 k1 k2 k3 k4 k5 k6 k7 e1 b1 x1 y1 x2 y2 x3 y3 x4 y4 x5 y5 x6 y6 x7 y7:=by
 refine ⟨(rdSt p false 1).1,(rdSt p false 1).2,(rdSt p false 2).1,(rdSt p false 2).2,(rdSt p false 3).1,(rdSt p false 3).2,(rdSt p false 4).1,(rdSt p false 4).2,(rdSt p false 5).1,(rdSt p false 5).2,(rdSt p false 6).1,(rdSt p false 6).2,(rdSt p false 7).1,(rdSt p false 7).2,⟨?_,?_,?_,?_,?_,?_,?_,?_,Nat.le_refl _,b0f p false 1,b0f p false 2,b0f p false 3,b0f p false 4,b0f p false 5,b0f p false 6,b0f p false 7⟩⟩
 ·rw [h.v0];exact b0j p false 0 1 rfl
 ·rw [h.v1];exact b0j p false 1 2 rfl
 ·rw [h.v2];exact b0j p false 2 3 rfl
 ·rw [h.v3];exact b0j p false 3 4 rfl
 ·rw [h.v4];exact b0j p false 4 5 rfl
 ·rw [h.v5];exact b0j p false 5 6 rfl
 ·rw [h.v6];exact b0j p false 6 7 rfl
 ·rw [h.v7,h.hE1,h.hE2];exact b0j p false 7 8 rfl
theorem v0b (d:Wd) (r:List UInt8):(c0j d r).err=d.err:=by unfold c0j;(repeat' split)<;>rfl
theorem may_err {d:Wd} (h:mayW d=true):d.err≤19:=(is_of h).err.2
set_option maxHeartbeats 4000000 in
theorem q0h (ao:Option Addr) (cap:Nat) (l:List UInt8) (w:World) (h:F.Sl w ao cap l) (hm:l.length≤140737488351232) (c:Nat) (hc:c=(F.oneB l).2) (h0:c≠0) :
 Calls Tryz.prog 32 #[.slice ao l.length cap] w (b0z w l):=by
 obtain ⟨n,hn⟩:∃ n,n=l.length:=⟨_,rfl⟩
 have Hone:=uH (fun (w3:World) (hb:Below w.heap.size w w3)=>F.l0y ao cap l w3 (h.grow hb) hm)
 unfold F.j0j at Hone
 have Hd3:Hid (d0e l=(zWd,(c:Int))):=by unfold d0e;rw [←hc,if_neg h0];exact uH rfl
 obtain ⟨r,c',hr⟩:∃ r c,F.oneB l=(r,c):=⟨_,_,rfl⟩
 rw [hr] at Hone hc
 rw [←hn] at Hone ⊢
 simp only at Hone hc
 subst hc
 have hcI:((c:Int) != 0)=true:=by rw [bne_iff_ne];omega
 clear hr h hm hn h0
 go_enter Tryz.func32,Tryz.ntmps32
 refine d0m fun R HR=>?_
 refine a0a fun C HC=>?_
 go_wp2_with fail
 refine a0d fun wa hwa=>?_
 obtain ⟨B,hB⟩:∃ B,B=w.heap.size:=⟨_,rfl⟩
 have S:Hid (St w wa [a0c B (.cells #[aI aK 0,aI aK 0,aI aK 0,aI aK 0,aI aK 0,aI aK 0,aI aK 0,aI aK 0,aS ⟨#[]⟩,aS ⟨#[]⟩,aI aK 0,aI aK 0,aI aK 0,aS ⟨#[]⟩,aS ⟨#[]⟩,aS ⟨#[]⟩,aS ⟨#[]⟩,aI aK 0,aI aK 0,aI aK 0,aB false,aI aK 0,aI aK 0,aI aK 0,aI aK 0,aI aK 0,aI aK 0,aI aK 0,aI aK 0,aI aK 0,.slice none 0 0,aI aK 0,aI aK 0,aI aK 0,aI aK 0,aS ⟨#[]⟩,.slice none 0 0] 49 (0,0))]):=by rw [hwa];exact uH ((St.start w).objN _ B hB)
 rw [←hB]
 clear hwa hB
 ((have hC:=HC.out);clear HC;subst hC)
 refine a0a fun C HC=>?_
 go_wp2_with fail
 refine (Hone.out wa S.out.b).mono ?_
 rintro e w1 ⟨qo,qc,rfl,-,hb1⟩
 have S:=uH (S.out.grow hb1)
 clear hb1
 go_wp2_with fail
 ((have hC:=HC.out);clear HC;subst hC)
 refine wp_seq ?_
 refine a0a fun C HC=>?_
 go_wp2_with fail
 ((have hC:=HC.out);clear HC;subst hC)
 ((refine wp_cond_true rfl ?_);(refine wp_seq ?_);(refine wp_region_lit ?_);((refine a0s 2 fun L HL=>?_);simp only [List.take_succ_cons,List.take_zero,List.cons_append,List.nil_append]);(go_wp2_with fail);((have hL:=HL.out);clear HL;subst hL;simp only [List.drop_succ_cons,List.drop_zero]);(refine wpList_store_row rfl 49 _ _ rfl B #[aI aK 0,aI aK 0,aI aK 0,aI aK 0,aI aK 0,aI aK 0,aI aK 0,aI aK 0,aS ⟨#[]⟩,aS ⟨#[]⟩,aI aK 0,aI aK 0,aI aK 0,aS ⟨#[]⟩,aS ⟨#[]⟩,aS ⟨#[]⟩,aS ⟨#[]⟩,aI aK 0,aI aK 0,aI aK 0,aB false,aI aK 0,aI aK 0,aI aK 0,aI aK 0,aI aK 0,aI aK 0,aI aK 0,aI aK 0,aI aK 0,.slice none 0 0,aI aK 0,aI aK 0,aI aK 0,aI aK 0,aS ⟨#[]⟩,.slice none 0 0] rfl rfl 49 _ (S.out).head (by kernel_rfl) rfl (by simp [Value.oneCell']) ?_);(have S2:=uH (St.c0m (S.out) #[aI aK 0,aI aK 0,aI aK 0,aI aK 0,aI aK 0,aI aK 0,aI aK 0,aI aK 0,aS ⟨#[]⟩,aS ⟨#[]⟩,aI aK 0,aI aK 0,aI aK 0,aS ⟨#[]⟩,aS ⟨#[]⟩,aS ⟨#[]⟩,aS ⟨#[]⟩,aI aK 0,aI aK 0,aI aK 0,aB false,aI aK 0,aI aK 0,aI aK 0,aI aK 0,aI aK 0,aI aK 0,aI aK 0,aI aK 0,aI aK 0,.slice none 0 0,aI aK 0,aI aK 0,aI aK 0,aI aK 0,aS ⟨#[]⟩,.slice none 0 0]));(refine b0l fun w2 hw2=>?_);(rw [←hw2] at S2);clear hw2 S;(go_wp2_with fail);(have hR:=HR.out);clear HR;subst hR;(go_wp2_with fail);(refine bodyPost_ret (b0h rfl _ _ B 49 _ (0,0) _ rfl S2.out.head Tryz.underlying49 rfl (by kernel_rfl)) rfl ?_);(unfold b0z;rw [Hd3.out];exact ⟨none,0,none,0,rfl,S2.out.b,d0c _,d0p _⟩))
set_option maxHeartbeats 4000000 in
theorem t0t (ao:Option Addr) (cap:Nat) (l:List UInt8) (w:World) (h:F.Sl w ao cap l) (hm:l.length≤140737488351232) (p:List UInt8) (hp:F.oneB l=(p,0)) (hs:SmW p) (hs2:(dR p).1.length≤2000) :
 Calls Tryz.prog 32 #[.slice ao l.length cap] w (b0z w l):=by
 obtain ⟨n,hn⟩:∃ n,n=l.length:=⟨_,rfl⟩
 have Hone:=uH (fun (w3:World) (hb:Below w.heap.size w w3)=>F.l0y ao cap l w3 (h.grow hb) hm)
 unfold F.j0j at Hone
 have hback:=k0w (l:=l) (by rw [hp])
 rw [hp] at hback
 have Hl:Hid (l=F.d0w p):=hback.1
 have Hpl:Hid (p.length≤1048576):=hback.2
 have Hdec:Hid (d0e l=if j0f p=true then (wdOf p,0) else (zWd,3)):=by unfold d0e;rw [hp];exact uH rfl
 rw [hp] at Hone
 rw [←hn] at Hone ⊢
 simp only at Hone
 have Hs:=uH hs
 obtain ⟨k0,k1,k2,k3,k4,k5,k6,k7,m0,m1,m2,e1,b1,sf,e2,b2,st,e3,b3,e4,b4,r,e5,b5,hI⟩:=wis p
 obtain ⟨x1,y1,x2,y2,x3,y3,x4,y4,x5,y5,x6,y6,x7,y7,hN⟩:=u0o hI
 have Hs2:Hid (r.length≤2000):=by rw [←hI.dr];exact uH hs2
 have HI:=uH hI
 have HN:=uH hN
 clear hp h hn hm hs hs2 hback hI hN
 go_enter Tryz.func32,Tryz.ntmps32
 refine d0m fun R HR=>?_
 refine a0a fun C HC=>?_
 go_wp2_with fail
 refine a0d fun wa hwa=>?_
 obtain ⟨B,hB⟩:∃ B,B=w.heap.size:=⟨_,rfl⟩
 have S:Hid (St w wa [a0c B (.cells #[aI aK 0,aI aK 0,aI aK 0,aI aK 0,aI aK 0,aI aK 0,aI aK 0,aI aK 0,aS ⟨#[]⟩,aS ⟨#[]⟩,aI aK 0,aI aK 0,aI aK 0,aS ⟨#[]⟩,aS ⟨#[]⟩,aS ⟨#[]⟩,aS ⟨#[]⟩,aI aK 0,aI aK 0,aI aK 0,aB false,aI aK 0,aI aK 0,aI aK 0,aI aK 0,aI aK 0,aI aK 0,aI aK 0,aI aK 0,aI aK 0,.slice none 0 0,aI aK 0,aI aK 0,aI aK 0,aI aK 0,aS ⟨#[]⟩,.slice none 0 0] 49 (0,0))]):=by rw [hwa];exact uH ((St.start w).objN _ B hB)
 rw [←hB]
 clear hwa hB
 ((have hC:=HC.out);clear HC;subst hC)
 refine a0a fun C HC=>?_
 go_wp2_with fail
 refine (Hone.out wa S.out.b).mono ?_
 rintro e w1 ⟨qo,qc,rfl,ho,hb1⟩
 have Sa:=S
 have S:=uH (S.out.grow hb1)
 have Ho:=uH ho
 have Hb1:=uH hb1
 clear hb1 ho
 go_wp2_with fail
 ((have hC:=HC.out);clear HC;subst hC)
 refine a0a fun C HC=>?_
 go_wp2_with fail
 ((have hC:=HC.out);clear HC;subst hC)
 refine a0a fun C HC=>?_
 go_wp2_with fail
 refine a0d fun w2 hw2=>?_
 obtain ⟨P,hP⟩:∃ P,P=w1.heap.size:=⟨_,rfl⟩
 obtain ⟨g,hg1,hg2⟩:=rr_newB Ho.out Hb1.out.size
 have S2:Hid (St w w2 [thRR P g p false,a0c B (.cells #[aI aK 0,aI aK 0,aI aK 0,aI aK 0,aI aK 0,aI aK 0,aI aK 0,aI aK 0,aS ⟨#[]⟩,aS ⟨#[]⟩,aI aK 0,aI aK 0,aI aK 0,aS ⟨#[]⟩,aS ⟨#[]⟩,aS ⟨#[]⟩,aS ⟨#[]⟩,aI aK 0,aI aK 0,aI aK 0,aB false,aI aK 0,aI aK 0,aI aK 0,aI aK 0,aI aK 0,aI aK 0,aI aK 0,aI aK 0,aI aK 0,.slice none 0 0,aI aK 0,aI aK 0,aI aK 0,aI aK 0,aS ⟨#[]⟩,.slice none 0 0] 49 (0,0))]):=by
  rw [hw2,hP]
  exact uH (Sa.out.newRR hg2 (Hb1.out.trans ((a0p _ _).mono Hb1.out.size)) Hb1.out.size hg1)
 rw [←hP]
 clear hw2 hP S Sa Ho Hb1 hg1 hg2
 ((have hC:=HC.out);clear HC;subst hC)
 refine a0a fun C HC=>?_
 refine wp_seq ?_
 refine wp_region_lit ?_
 ((refine a0s 14 fun L HL=>?_);simp only [List.take_succ_cons,List.take_zero,List.cons_append,List.nil_append])
 go_wp2_with fail
 have hcall:=St.d0s S2.out (by have:=HN.out.l0;have:=Hpl.out;omega)
 rw [HN.out.q0] at hcall
 refine hcall.mono ?_
 clear hcall
 rintro e v0 ⟨rfl,hS⟩
 have T0:=uH hS
 dsimp only at T0 ⊢
 clear hS S2
 go_wp2_with fail
 have hcall:=St.d0s T0.out (by have:=HN.out.l1;have:=Hpl.out;omega)
 rw [HN.out.q1] at hcall
 refine hcall.mono ?_
 clear hcall
 rintro e v1 ⟨rfl,hS⟩
 have T1:=uH hS
 dsimp only at T1 ⊢
 clear hS T0
 go_wp2_with fail
 have hcall:=St.d0s T1.out (by have:=HN.out.l2;have:=Hpl.out;omega)
 rw [HN.out.q2] at hcall
 refine hcall.mono ?_
 clear hcall
 rintro e v2 ⟨rfl,hS⟩
 have T2:=uH hS
 dsimp only at T2 ⊢
 clear hS T1
 go_wp2_with fail
 have hcall:=St.d0s T2.out (by have:=HN.out.l3;have:=Hpl.out;omega)
 rw [HN.out.q3] at hcall
 refine hcall.mono ?_
 clear hcall
 rintro e v3 ⟨rfl,hS⟩
 have T3:=uH hS
 dsimp only at T3 ⊢
 clear hS T2
 go_wp2_with fail
 have hcall:=St.d0s T3.out (by have:=HN.out.l4;have:=Hpl.out;omega)
 rw [HN.out.q4] at hcall
 refine hcall.mono ?_
 clear hcall
 rintro e v4 ⟨rfl,hS⟩
 have T4:=uH hS
 dsimp only at T4 ⊢
 clear hS T3
 go_wp2_with fail
 have hcall:=St.d0s T4.out (by have:=HN.out.l5;have:=Hpl.out;omega)
 rw [HN.out.q5] at hcall
 refine hcall.mono ?_
 clear hcall
 rintro e v5 ⟨rfl,hS⟩
 have T5:=uH hS
 dsimp only at T5 ⊢
 clear hS T4
 go_wp2_with fail
 have hcall:=St.d0s T5.out (by have:=HN.out.l6;have:=Hpl.out;omega)
 rw [HN.out.q6] at hcall
 refine hcall.mono ?_
 clear hcall
 rintro e v6 ⟨rfl,hS⟩
 have T6:=uH hS
 dsimp only at T6 ⊢
 clear hS T5
 go_wp2_with fail
 ((have hL:=HL.out);clear HL;subst hL;simp only [List.drop_succ_cons,List.drop_zero])
 ((refine a0s 1 fun L HL=>?_);simp only [List.take_succ_cons,List.take_zero,List.cons_append,List.nil_append])
 go_wp2_with fail
 ((have hL:=HL.out);clear HL;subst hL;simp only [List.drop_succ_cons,List.drop_zero])
 ((refine a0s 1 fun L HL=>?_);simp only [List.take_succ_cons,List.take_zero,List.cons_append,List.nil_append])
 go_wp2_with fail
 ((have hL:=HL.out);clear HL;subst hL;simp only [List.drop_succ_cons,List.drop_zero])
 obtain ⟨Q,hQ⟩:∃ Q,Q=v6.heap.size:=⟨_,rfl⟩
 have S3:=T6.out.objN (.cells (wdV zWd (.slice none 0 0) (.slice none 0 0)) 49 (0,0)) Q hQ
 refine wpList_store_row rfl 49 _ _ rfl Q (wdV ⟨k0,k1,k2,k3,k4,k5,k6,0,e0,e0,rq0,zRp,mp0,ch0,[]⟩ (.slice none 0 0) (.slice none 0 0)) (by rw [hQ];rfl) rfl 49 _ S3.head (by kernel_rfl) rfl (by simp [wdV,Value.oneCell']) ?_
 obtain ⟨D1,hD1⟩:∃ D:Wd,D=⟨k0,k1,k2,k3,k4,k5,k6,0,e0,e0,rq0,zRp,mp0,ch0,[]⟩:=⟨_,rfl⟩
 have S4:=(St.c0m S3 (wdV ⟨k0,k1,k2,k3,k4,k5,k6,0,e0,e0,rq0,zRp,mp0,ch0,[]⟩ (.slice none 0 0) (.slice none 0 0))).pull (A:=[_])
 refine b0l fun w4 hw4=>?_
 have S5:Hid (St w w4 [thRR P g x7 y7,a0c Q (.cells (wdV D1 (.slice none 0 0) (.slice none 0 0)) 49 (0,0)),a0c B (.cells #[aI aK 0,aI aK 0,aI aK 0,aI aK 0,aI aK 0,aI aK 0,aI aK 0,aI aK 0,aS ⟨#[]⟩,aS ⟨#[]⟩,aI aK 0,aI aK 0,aI aK 0,aS ⟨#[]⟩,aS ⟨#[]⟩,aS ⟨#[]⟩,aS ⟨#[]⟩,aI aK 0,aI aK 0,aI aK 0,aB false,aI aK 0,aI aK 0,aI aK 0,aI aK 0,aI aK 0,aI aK 0,aI aK 0,aI aK 0,aI aK 0,.slice none 0 0,aI aK 0,aI aK 0,aI aK 0,aI aK 0,aS ⟨#[]⟩,.slice none 0 0] 49 (0,0))]):=by
  rw [hw4,hD1]
  exact uH S4
 have HD1:=uH hD1
 rw [←hQ]
 clear hw4 hD1 hQ S3 S4 T6
 go_wp2_with fail
 ((have hC:=HC.out);clear HC;subst hC)
 refine a0a fun C HC=>?_
 go_wp2_with fail
 have hcall:=St.d0s S5.out (by have:=HN.out.l7;have:=Hpl.out;omega)
 rw [HN.out.q7] at hcall
 refine hcall.mono ?_
 clear hcall
 rintro e w5 ⟨rfl,hS⟩
 have S6:=uH hS
 dsimp only at S6 ⊢
 clear hS S5
 go_wp2_with fail
 ((have hC:=HC.out);clear HC;subst hC)
 refine a0a fun C HC=>?_
 obtain ⟨c0,c1,c2,c3,c4,c5,c6,c7,c8,c9,c10,c11,c12,c13,c14,c15,c16,c17,c18,c19,c20,c21,c22,c23,c24,c25,c26,c27,c28,c29,c30,c31,c32,c33,c34,c35,c36⟩:=a0r (show w5.heap[Q]?=some (.cells (wdV D1 (.slice none 0 0) (.slice none 0 0)) 49 (0,0)) from (S6.out.pull (A:=[_])).head)
 obtain ⟨s1,-,s3⟩:=S6.out.a0b 1 rfl
 clear c0 c1 c2 c3 c4 c5 c6 c8 c9 c10 c11 c12 c13 c14 c15 c16 c17 c18 c19 c20 c21 c22 c23 c24 c25 c26 c27 c28 c29 c30 c31 c32 c33 c34 c35 c36
 go_wp2_with fail
 refine a0d fun w6 hw6=>?_
 obtain ⟨D2,hD2⟩:∃ D:Wd,D=⟨k0,k1,k2,k3,k4,k5,k6,k7,e0,e0,rq0,zRp,mp0,ch0,[]⟩:=⟨_,rfl⟩
 have S7:Hid (St w w6.drew [thRR P g e1 b1,a0c Q (.cells (wdV D2 (.slice none 0 0) (.slice none 0 0)) 49 (0,0)),a0c B (.cells #[aI aK 0,aI aK 0,aI aK 0,aI aK 0,aI aK 0,aI aK 0,aI aK 0,aI aK 0,aS ⟨#[]⟩,aS ⟨#[]⟩,aI aK 0,aI aK 0,aI aK 0,aS ⟨#[]⟩,aS ⟨#[]⟩,aS ⟨#[]⟩,aS ⟨#[]⟩,aI aK 0,aI aK 0,aI aK 0,aB false,aI aK 0,aI aK 0,aI aK 0,aI aK 0,aI aK 0,aI aK 0,aI aK 0,aI aK 0,aI aK 0,.slice none 0 0,aI aK 0,aI aK 0,aI aK 0,aI aK 0,aS ⟨#[]⟩,.slice none 0 0] 49 (0,0))]):=by
  have h:=(S6.out.pull (A:=[_])).setObj 7 (aI aK k7)
  rw [m0u (d:=D1) 7 (aI aK k7) (wdV D2 (.slice none 0 0) (.slice none 0 0)) (by rw [HD1.out,hD2];rfl),←hw6] at h
  exact uH ((h.pull (A:=[_])).grow (Below.refl _ _).drew)
 have HD2:=uH hD2
 clear hw6 hD2 s1 s3 c7 S6 HD1
 ((have hC:=HC.out);clear HC;subst hC)
 refine a0a fun C HC=>?_
 refine wp_seq ?_
 refine wp_region_noPanic ?_
 refine wp_region_held (S:=fun _=>True) (by kernel_rfl) ?_
 change wpAnyH _ _ _ _ _ _ _ _ (World.drew _)
 (refine takeD (i:=0) (v:=?v0x) 40 rfl rfl (by kernel_rfl) (by kernel_rfl) (by kernel_rfl) (fun _ _ _ h=>h) (Or.inl ⟨by rfl,?hy0x⟩) trivial ?rest0x;(case hy0x=>(intro w _;go_simp;(try with_reducible rfl)));(try simp only [Act.put,lA,lZ,lS]))
 (refine takeD (i:=3) (v:=?v3x) 43 rfl rfl (by kernel_rfl) (by kernel_rfl) (by kernel_rfl) (fun _ _ _ h=>h) (Or.inl ⟨by rfl,?hy3x⟩) trivial ?rest3x;(case hy3x=>(intro w _;go_simp;(try with_reducible rfl)));(try simp only [Act.put,lA,lZ,lS]))
 have hcall:=k0t S7.out (by have:=HI.out.l1;have:=Hpl.out;omega)
 rw [HI.out.hF] at hcall
 (refine oneD 1 rfl (fun K' hK'=>?_))
 go_simp
 refine hcall.mono ?_
 rintro e w7 ⟨yo,yc,rfl,ho,hS,-⟩
 have hpb:P<w6.drew.heap.size:=(S7.out.t.lts _ (List.mem_cons_self ..) P (.inl rfl)).1
 have S8:=uH hS
 have Ho:=uH ho
 dsimp only at S8 Ho ⊢
 have hcv:=b0c Ho.out.at yc
 refine hK' _ _ ⟨trivial,?_⟩
 clear hK' K' hcall hS ho S7
 try simp only [Act.put,lA,lZ,lS]
 have hcall:=k0t S8.out (by have:=HI.out.l2;have:=Hpl.out;omega)
 rw [HI.out.hG] at hcall
 refine wpAnyH_all (rs:=[2,4]) (by kernel_rfl) (by simp) (fun i' hi'=>?_)
 have hi2:i'=2∨i'=4:=by simpa using hi'
 clear hi'
 rcases hi2 with rfl | rfl
 case' inl =>
  refine wpOp_step rfl (fun K' hK'=>?_)
  go_simp
  refine hK' _ _ ⟨trivial,?_⟩
  clear hK' K' hcv
  try simp only [Act.put,lA,lZ,lS]
  (refine oneD 4 rfl (fun K' hK'=>?_))
  go_simp
  refine hcall.mono ?_
  rintro e w8 ⟨xo,xc,rfl,ho,hS,-⟩
  have S9:=uH hS
  have Ho2:=uH ho
  dsimp only at S9 Ho2 ⊢
  have hcv:=b0c Ho2.out.at xc
  refine hK' _ _ ⟨trivial,?_⟩
  clear hK' K' hcall hS ho S8
  try simp only [Act.put,lA,lZ,lS]
  (refine oneD 5 rfl (fun K' hK'=>?_))
  go_simp
  refine hK' _ _ ⟨trivial,?_⟩
  clear hK' K' hcv
  try simp only [Act.put,lA,lZ,lS]
 case' inr =>
  refine wpOp_step rfl (fun K' hK'=>?_)
  go_simp
  refine hcall.mono ?_
  rintro e w8 ⟨xo,xc,rfl,ho,hS,hk⟩
  have S9:=uH hS
  have Ho2:=uH ho
  dsimp only at S9 Ho2 ⊢
  have hcv2:=b0c Ho2.out.at xc
  have hcv1:=b0c (O.s0q Ho.out hk hpb).at yc
  refine hK' _ _ ⟨trivial,?_⟩
  clear hK' K' hcall hS ho S8 hk hcv
  try simp only [Act.put,lA,lZ,lS]
  refine wpAnyH_all (rs:=[2,5]) (by kernel_rfl) (by simp) (fun i' hi'=>?_)
  have hi2:i'=2∨i'=5:=by simpa using hi'
  clear hi'
  rcases hi2 with rfl | rfl
 case' inr.inl =>
  refine wpOp_step rfl (fun K' hK'=>?_)
  go_simp
  refine hK' _ _ ⟨trivial,?_⟩
  clear hK' K'
  try simp only [Act.put,lA,lZ,lS]
  (refine oneD 5 rfl (fun K' hK'=>?_))
  go_simp
  refine hK' _ _ ⟨trivial,?_⟩
  clear hK' K'
  try simp only [Act.put,lA,lZ,lS]
 case' inr.inr =>
  refine wpOp_step rfl (fun K' hK'=>?_)
  go_simp
  refine hK' _ _ ⟨trivial,?_⟩
  clear hK' K'
  try simp only [Act.put,lA,lZ,lS]
  (refine oneD 2 rfl (fun K' hK'=>?_))
  go_simp
  refine hK' _ _ ⟨trivial,?_⟩
  clear hK' K'
  try simp only [Act.put,lA,lZ,lS]
 all_goals
  obtain ⟨D4,hD4⟩:∃ D:Wd,D=⟨k0,k1,k2,k3,k4,k5,k6,k7,⟨sf.toArray⟩,⟨st.toArray⟩,rq0,zRp,mp0,ch0,[]⟩:=⟨_,rfl⟩
  have SX:Hid (St w ((w8.setCell ⟨Q,8,none⟩ (aS ⟨sf.toArray⟩)).setCell ⟨Q,9,none⟩ (aS ⟨st.toArray⟩)) [thRR P g e3 b3,a0c Q (.cells (wdV D4 (.slice none 0 0) (.slice none 0 0)) 49 (0,0)),a0c B (.cells #[aI aK 0,aI aK 0,aI aK 0,aI aK 0,aI aK 0,aI aK 0,aI aK 0,aI aK 0,aS ⟨#[]⟩,aS ⟨#[]⟩,aI aK 0,aI aK 0,aI aK 0,aS ⟨#[]⟩,aS ⟨#[]⟩,aS ⟨#[]⟩,aS ⟨#[]⟩,aI aK 0,aI aK 0,aI aK 0,aB false,aI aK 0,aI aK 0,aI aK 0,aI aK 0,aI aK 0,aI aK 0,aI aK 0,aI aK 0,aI aK 0,.slice none 0 0,aI aK 0,aI aK 0,aI aK 0,aI aK 0,aS ⟨#[]⟩,.slice none 0 0] 49 (0,0))]):=by
   have h:=((S9.out.pull (A:=[_])).setObj 8 (aS ⟨sf.toArray⟩)).setObj 9 (aS ⟨st.toArray⟩)
   rw [show ((wdV D2 (.slice none 0 0) (.slice none 0 0)).setIfInBounds 8 (aS ⟨sf.toArray⟩)).setIfInBounds 9 (aS ⟨st.toArray⟩)=wdV D4 (.slice none 0 0) (.slice none 0 0) from by rw [HD2.out,hD4];rfl] at h
   exact uH (h.pull (A:=[_]))
  have HD4:=uH hD4
  clear hD4 HD2
  (refine oneD 6 rfl (fun K' hK'=>?_))
  go_simp
  refine hK' _ _ ⟨trivial,?_⟩
  clear hK' K'
  try simp only [Act.put,lA,lZ,lS]
  (refine oneD 7 rfl (fun K' hK'=>?_))
  go_simp
  refine hK' _ _ ⟨trivial,?_⟩
  clear hK' K'
  try simp only [Act.put,lA,lZ,lS]
  obtain ⟨s1,-,s3⟩:=S9.out.a0b 1 rfl
  obtain ⟨c0,c1,c2,c3,c4,c5,c6,c7,c8,c9,c10,c11,c12,c13,c14,c15,c16,c17,c18,c19,c20,c21,c22,c23,c24,c25,c26,c27,c28,c29,c30,c31,c32,c33,c34,c35,c36⟩:=a0r (show w8.heap[Q]?=some (.cells (wdV D2 (.slice none 0 0) (.slice none 0 0)) 49 (0,0)) from (S9.out.pull (A:=[_])).head)
  clear c0 c1 c2 c3 c4 c5 c6 c7 c10 c11 c12 c13 c14 c15 c16 c17 c18 c19 c20 c21 c22 c23 c24 c25 c26 c27 c28 c29 c30 c31 c32 c33 c34 c35 c36
  (refine oneD 8 rfl (fun K' hK'=>?_))
  go_simp
  refine hK' _ _ ⟨trivial,?_⟩
  clear hK' K'
  refine wpAnyH_done (by kernel_rfl) ?_ _
  refine NoPanic.normal ?_
  clear S9 s1 s3 c8 c9 Ho Ho2
  refine a0d fun w9 hw9=>?_
  rw [←hw9] at SX
  clear hw9
  go_wp2_with fail
  ((have hC:=HC.out);clear HC;subst hC)
  refine a0a fun CT HCT=>?_
  refine wp_seq ?_
  refine a0a fun C HC=>?_
  refine wp_seq ?_
  refine wp_region_lit ?_
  ((refine a0s 8 fun L HL=>?_);simp only [List.take_succ_cons,List.take_zero,List.cons_append,List.nil_append])
  go_wp2_with fail
  refine (v0w HI.out Hpl.out HD4.out SX.out Hs2.out).mono ?_
  rintro e wA ⟨VQ,e',b',hS,rfl,hok⟩
  have SA:=uH hS
  obtain ⟨ok,hokb⟩:∃ b,b=(b0p k0 r&&i0c p):=⟨_,rfl⟩
  rw [←hokb]
  have HO:=uH hok
  have Hok:=uH hokb
  clear hS hok hokb SX HD4
  cases ok with
  | false =>
   have Hd3:Hid (d0e l=(zWd,3)):=by
    rw [Hdec.out,if_neg]
    ·exact uH rfl
    ·have h:=Hok.out
     unfold j0f
     rw [HI.out.dk,HI.out.dr,Bool.and_comm (i0c p),←h]
     simp
   go_wp2_with fail
   ((have hL:=HL.out);clear HL;subst hL;simp only [List.drop_succ_cons,List.drop_zero])
   go_wp2_with fail
   ((have hC:=HC.out);clear HC;subst hC)
   ((refine wp_cond_true rfl ?_);(refine wp_seq ?_);(refine wp_region_lit ?_);((refine a0s 1 fun L HL=>?_);simp only [List.take_succ_cons,List.take_zero,List.cons_append,List.nil_append]);(go_wp2_with fail);((have hL:=HL.out);clear HL;subst hL;simp only [List.drop_succ_cons,List.drop_zero]);(refine wpList_store_row rfl 49 _ _ rfl B #[aI aK 0,aI aK 0,aI aK 0,aI aK 0,aI aK 0,aI aK 0,aI aK 0,aI aK 0,aS ⟨#[]⟩,aS ⟨#[]⟩,aI aK 0,aI aK 0,aI aK 0,aS ⟨#[]⟩,aS ⟨#[]⟩,aS ⟨#[]⟩,aS ⟨#[]⟩,aI aK 0,aI aK 0,aI aK 0,aB false,aI aK 0,aI aK 0,aI aK 0,aI aK 0,aI aK 0,aI aK 0,aI aK 0,aI aK 0,aI aK 0,.slice none 0 0,aI aK 0,aI aK 0,aI aK 0,aI aK 0,aS ⟨#[]⟩,.slice none 0 0] rfl rfl 49 _ ((SA.out.pull (A:=[_,_]))).head (by kernel_rfl) rfl (by simp [Value.oneCell']) ?_);(have S2:=uH (St.c0m ((SA.out.pull (A:=[_,_]))) #[aI aK 0,aI aK 0,aI aK 0,aI aK 0,aI aK 0,aI aK 0,aI aK 0,aI aK 0,aS ⟨#[]⟩,aS ⟨#[]⟩,aI aK 0,aI aK 0,aI aK 0,aS ⟨#[]⟩,aS ⟨#[]⟩,aS ⟨#[]⟩,aS ⟨#[]⟩,aI aK 0,aI aK 0,aI aK 0,aB false,aI aK 0,aI aK 0,aI aK 0,aI aK 0,aI aK 0,aI aK 0,aI aK 0,aI aK 0,aI aK 0,.slice none 0 0,aI aK 0,aI aK 0,aI aK 0,aI aK 0,aS ⟨#[]⟩,.slice none 0 0]));(refine b0l fun w2 hw2=>?_);(rw [←hw2] at S2);clear hw2 SA;(go_wp2_with fail);(have hR:=HR.out);clear HR;subst hR;(go_wp2_with fail);(refine bodyPost_ret (b0h rfl _ _ B 49 _ (0,0) _ rfl S2.out.head Tryz.underlying49 rfl (by kernel_rfl)) rfl ?_);(unfold b0z;rw [Hd3.out];exact ⟨none,0,none,0,rfl,S2.out.b,d0c _,d0p _⟩))
  | true =>
   have hok2:=Hok.out
   rw [eq_comm,Bool.and_eq_true] at hok2
   obtain ⟨mo,zc,dl,dc,hVQ,hz,hsl⟩:=HO.out hok2.1
   obtain ⟨X,hX⟩:∃ X,X=wdOf p:=⟨_,rfl⟩
   rw [←hX] at hVQ hz hsl
   have HLi:Hid (Light X):=uH (by rw [hX];exact Hs.out.li hok2.2 (by rw [HI.out.dk,HI.out.dr];exact hok2.1))
   have hsz:VQ.size=37:=by rw [hVQ];rfl
   have hmy:=o0k hVQ mo dl zc dc rfl rfl wA hz hsl.at_ HLi.out.mp.n
   rw [r0b] at hmy
   have Hgw:Hid (j0f p=mayW X):=by unfold j0f;rw [hok2.2,HI.out.dk,HI.out.dr,hok2.1,←hX];exact uH rfl
   have Hxe:Hid (X.err=k7):=by rw [hX];unfold wdOf;rw [v0b,HI.out.base];exact uH rfl
   obtain ⟨my,hmb⟩:∃ b,b=mayW X:=⟨_,rfl⟩
   rw [←hmb] at hmy Hgw
   have Hmb:=uH hmb
   have Hmy:=uH hmy
   have HVQ:=uH hVQ
   have HZ:=uH hz
   have HSl:=uH hsl
   have HX:=uH hX
   clear hVQ hz hsl hX HO hok2 hmy hmb Hok
   rcases Bool.eq_false_or_eq_true (decide ((19:Int)<k7)) with t1 | t1
   ·have Hd3:Hid (d0e l=(zWd,3)):=by
     rw [Hdec.out,if_neg]
     ·exact uH rfl
     ·rw [Hgw.out,Hmb.out]
      intro h
      have h2:=may_err h
      rw [Hxe.out] at h2
      rw [decide_eq_true_eq] at t1
      omega
    go_wp2_with fail
    ((have hL:=HL.out);clear HL;subst hL;simp only [List.drop_succ_cons,List.drop_zero])
    go_wp2_with fail
    ((have hC:=HC.out);clear HC;subst hC)
    ((refine wp_cond_true rfl ?_);(refine wp_seq ?_);(refine wp_region_lit ?_);((refine a0s 1 fun L HL=>?_);simp only [List.take_succ_cons,List.take_zero,List.cons_append,List.nil_append]);(go_wp2_with fail);((have hL:=HL.out);clear HL;subst hL;simp only [List.drop_succ_cons,List.drop_zero]);(refine wpList_store_row rfl 49 _ _ rfl B #[aI aK 0,aI aK 0,aI aK 0,aI aK 0,aI aK 0,aI aK 0,aI aK 0,aI aK 0,aS ⟨#[]⟩,aS ⟨#[]⟩,aI aK 0,aI aK 0,aI aK 0,aS ⟨#[]⟩,aS ⟨#[]⟩,aS ⟨#[]⟩,aS ⟨#[]⟩,aI aK 0,aI aK 0,aI aK 0,aB false,aI aK 0,aI aK 0,aI aK 0,aI aK 0,aI aK 0,aI aK 0,aI aK 0,aI aK 0,aI aK 0,.slice none 0 0,aI aK 0,aI aK 0,aI aK 0,aI aK 0,aS ⟨#[]⟩,.slice none 0 0] rfl rfl 49 _ ((SA.out.pull (A:=[_,_]))).head (by kernel_rfl) rfl (by simp [Value.oneCell']) ?_);(have S2:=uH (St.c0m ((SA.out.pull (A:=[_,_]))) #[aI aK 0,aI aK 0,aI aK 0,aI aK 0,aI aK 0,aI aK 0,aI aK 0,aI aK 0,aS ⟨#[]⟩,aS ⟨#[]⟩,aI aK 0,aI aK 0,aI aK 0,aS ⟨#[]⟩,aS ⟨#[]⟩,aS ⟨#[]⟩,aS ⟨#[]⟩,aI aK 0,aI aK 0,aI aK 0,aB false,aI aK 0,aI aK 0,aI aK 0,aI aK 0,aI aK 0,aI aK 0,aI aK 0,aI aK 0,aI aK 0,.slice none 0 0,aI aK 0,aI aK 0,aI aK 0,aI aK 0,aS ⟨#[]⟩,.slice none 0 0]));(refine b0l fun w2 hw2=>?_);(rw [←hw2] at S2);clear hw2 SA;(go_wp2_with fail);(have hR:=HR.out);clear HR;subst hR;(go_wp2_with fail);(refine bodyPost_ret (b0h rfl _ _ B 49 _ (0,0) _ rfl S2.out.head Tryz.underlying49 rfl (by kernel_rfl)) rfl ?_);(unfold b0z;rw [Hd3.out];exact ⟨none,0,none,0,rfl,S2.out.b,d0c _,d0p _⟩))
   go_wp2_with fail
   ((have hL:=HL.out);clear HL;subst hL;simp only [List.drop_succ_cons,List.drop_zero])
   refine d0h (by rfl) 49 _ rfl Q rfl _ _ _ _ (SA.out.pull (A:=[_])).head Tryz.underlying49 rfl (by rw [hsz];kernel_rfl) ?_
   go_wp2_with fail
   refine Hmy.out.mono ?_
   rintro e wC ⟨rfl,hbC⟩
   have SC:=uH (SA.out.grow hbC)
   have HZC:=uH (HZ.out.grow hbC)
   have HSC:=uH (HSl.out.grow hbC)
   clear hbC SA HZ HSl Hmy t1
   cases my with
   | false =>
    have Hd3:Hid (d0e l=(zWd,3)):=by
     rw [Hdec.out,if_neg]
     ·exact uH rfl
     ·rw [Hgw.out];simp
    go_wp2_with fail
    ((have hC:=HC.out);clear HC;subst hC)
    ((refine wp_cond_true rfl ?_);(refine wp_seq ?_);(refine wp_region_lit ?_);((refine a0s 1 fun L HL=>?_);simp only [List.take_succ_cons,List.take_zero,List.cons_append,List.nil_append]);(go_wp2_with fail);((have hL:=HL.out);clear HL;subst hL;simp only [List.drop_succ_cons,List.drop_zero]);(refine wpList_store_row rfl 49 _ _ rfl B #[aI aK 0,aI aK 0,aI aK 0,aI aK 0,aI aK 0,aI aK 0,aI aK 0,aI aK 0,aS ⟨#[]⟩,aS ⟨#[]⟩,aI aK 0,aI aK 0,aI aK 0,aS ⟨#[]⟩,aS ⟨#[]⟩,aS ⟨#[]⟩,aS ⟨#[]⟩,aI aK 0,aI aK 0,aI aK 0,aB false,aI aK 0,aI aK 0,aI aK 0,aI aK 0,aI aK 0,aI aK 0,aI aK 0,aI aK 0,aI aK 0,.slice none 0 0,aI aK 0,aI aK 0,aI aK 0,aI aK 0,aS ⟨#[]⟩,.slice none 0 0] rfl rfl 49 _ ((SC.out.pull (A:=[_,_]))).head (by kernel_rfl) rfl (by simp [Value.oneCell']) ?_);(have S2:=uH (St.c0m ((SC.out.pull (A:=[_,_]))) #[aI aK 0,aI aK 0,aI aK 0,aI aK 0,aI aK 0,aI aK 0,aI aK 0,aI aK 0,aS ⟨#[]⟩,aS ⟨#[]⟩,aI aK 0,aI aK 0,aI aK 0,aS ⟨#[]⟩,aS ⟨#[]⟩,aS ⟨#[]⟩,aS ⟨#[]⟩,aI aK 0,aI aK 0,aI aK 0,aB false,aI aK 0,aI aK 0,aI aK 0,aI aK 0,aI aK 0,aI aK 0,aI aK 0,aI aK 0,aI aK 0,.slice none 0 0,aI aK 0,aI aK 0,aI aK 0,aI aK 0,aS ⟨#[]⟩,.slice none 0 0]));(refine b0l fun w2 hw2=>?_);(rw [←hw2] at S2);clear hw2 SC;(go_wp2_with fail);(have hR:=HR.out);clear HR;subst hR;(go_wp2_with fail);(refine bodyPost_ret (b0h rfl _ _ B 49 _ (0,0) _ rfl S2.out.head Tryz.underlying49 rfl (by kernel_rfl)) rfl ?_);(unfold b0z;rw [Hd3.out];exact ⟨none,0,none,0,rfl,S2.out.b,d0c _,d0p _⟩))
   | true =>
    have Hd0:Hid (d0e l=(X,0)):=by rw [Hdec.out,if_pos Hgw.out,HX.out];exact uH rfl
    go_wp2_with fail
    ((have hC:=HC.out);clear HC;subst hC)
    refine wp_cond_false rfl ?_
    go_wp2_with fail
    (have hC:=HCT.out);clear HCT;subst hC
    refine wp_seq ?_
    refine wp_region_lit ?_
    refine wpList_load_row rfl 49 _ rfl Q rfl _ _ _ _ (SC.out.pull (A:=[_])).head Tryz.underlying49 rfl (by rw [hsz];kernel_rfl) ?_
    have h1:VQ.all (·.oneCell')=true:=by rw [HVQ.out];simp [wdV,Value.oneCell']
    have hBh:=(SC.out.pull (A:=[_,_])).head
    refine wpList_store_row rfl 49 _ _ rfl B VQ rfl rfl 49 _ hBh (by rw [hsz];kernel_rfl) (by rw [hsz];rfl) h1 ?_
    have S2:=uH (St.c0m (SC.out.pull (A:=[_,_])) VQ)
    have HZ2:=uH (r0o (cs:=VQ) HZC.out (j0z (d:=zWd) hBh HZC.out))
    have HS2:=uH (r0y (cs:=VQ) HSC.out (r0z (d:=zWd) hBh HSC.out))
    refine b0l fun w2 hw2=>?_
    rw [←hw2] at S2 HZ2 HS2
    clear hw2 SC h1 hBh
    go_wp2_with fail
    (have hR:=HR.out);clear HR;subst hR
    go_wp2_with fail
    refine bodyPost_ret (b0h rfl _ _ B 49 _ (0,0) _ rfl S2.out.head Tryz.underlying49 rfl (by rw [hsz];kernel_rfl)) rfl ?_
    unfold b0z
    rw [Hd0.out]
    exact ⟨mo,zc,dl,dc,by rw [HVQ.out];rfl,S2.out.b,HZ2.out,HS2.out⟩
open Go.RowKit
theorem wdec_all (ao:Option Addr) (cap:Nat) (l:List UInt8) (w:World) (h:F.Sl w ao cap l) (hm:l.length≤140737488351232) (hs:∀ p,F.oneB l=(p,0)→SmW p):Calls Tryz.prog 27 #[.slice ao l.length cap] w (b0z w l):=by
 obtain ⟨p,c,hp⟩:∃ p c,F.oneB l=(p,c):=⟨_,_,rfl⟩
 by_cases hc:c=0
 ·subst hc
  exact y0j ao cap l w h hm p hp (hs p hp)
 ·refine (r0c ao cap l w h hm c (by rw [hp]) hc).mono ?_
  rintro e w' ⟨rfl,hb⟩
  unfold b0z d0e
  rw [hp,if_neg hc]
  exact ⟨none,0,none,0,rfl,hb,d0c _,d0p _⟩
theorem s0j (ao:Option Addr) (cap:Nat) (l:List UInt8) (w:World) (h:F.Sl w ao cap l) (hm:l.length≤2000):Calls Tryz.prog 32 #[.slice ao l.length cap] w (b0z w l):=by
 obtain ⟨p,c,hp⟩:∃ p c,F.oneB l=(p,c):=⟨_,_,rfl⟩
 by_cases hc:c=0
 ·have hl:=w0x hp hc
  subst hc
  have hs:=r0w (p:=p) (by omega)
  refine t0t ao cap l w h (by omega) p hp hs ?_
  have h1:=wis p
  obtain ⟨k0,k1,k2,k3,k4,k5,k6,k7,m0,m1,m2,e1,b1,sf,e2,b2,st,e3,b3,e4,b4,r,e5,b5,hI⟩:=h1
  rw [hI.dr]
  have:=hI.lr
  omega
 ·exact q0h ao cap l w h (by omega) c (by rw [hp]) hc
theorem p0p {w:World} {l:List UInt8} {e:Ending} {w':World} (h:b0z w l e w'):∃ V mo zc dl dc,V=wdV (d0e l).1 (.slice mo (d0e l).1.mp.zs.length zc) (.slice dl (d0e l).1.data.length dc)∧V.size=37∧V.all (·.oneCell')=true∧e=.returned (.tuple #[.agg V,aI aK (d0e l).2])∧Below w.heap.size w w'∧O.ZsAt w' mo (d0e l).1.mp.zs∧F.Sl w' dl dc (d0e l).1.data:=by
 obtain ⟨mo,zc,dl,dc,rfl,hb,hz,hs⟩:=h
 exact ⟨_,mo,zc,dl,dc,rfl,rfl,by simp [wdV,Value.oneCell'],rfl,hb,hz,hs⟩
end Go.Proofs.YtogamdaomdoapaaGreat
namespace Go.Proofs.YtogamdaomdoapaaGreat.G
open Go.Value renaming int→aI,string→aS,bool→aB
open Go.IntKind renaming i64→aK
open List renaming setIfInBounds_toArray→lA,set_cons_zero→lZ,set_cons_succ→lS
open Go.Lib renaming hid→uH
open Go.RowKit
abbrev An:=Rq × Rp
def anV (a:An):List Value:=[aI aK a.1.kind,aI aK a.1.client,aI aK a.1.seq,aS a.1.key,aS a.1.who,aS a.1.tkey,aS a.1.twho,aI aK a.1.item,aI aK a.1.count,aI aK a.1.price,aB a.1.buy,aI aK a.1.id,aI aK a.2.err,aI aK a.2.id,aI aK a.2.i.a,aI aK a.2.i.b,aI aK a.2.i.c,aI aK a.2.i.d]
def anR (l:List An):List Value:=l.flatMap anV
theorem z0c (l m:List An):anR (l++m)=anR l++anR m:=List.flatMap_append ..
theorem z0a (a:An):anR [a]=anV a:=by unfold anR;simp
theorem z0b (l:List An):(anR l).length=l.length * 18:=by
 induction l with
 | nil=>rfl
 | cons a l ih=>rw [show anR (a::l)=anV a++anR l from List.flatMap_cons ..,List.length_append,ih,List.length_cons];show 18+_=_;omega
def forB (g:Gt) (f t:Int):Bool:=g.pend&&decide (t=g.id)&&b0w g.hosts f
def x0k (g:Gt) (D:Wd × Int):Bool:=decide (D.2=0)&&decide (D.1.kind=6)&&decide (D.1.op.kind=g.op.kind)&&decide (D.1.op.client=g.op.client)&&decide (D.1.op.seq=g.op.seq)
def b0q (g:Gt) (f t:Int) (D:Wd × Int):Bool:=forB g f t&&x0k g D
def i0j (g:Gt) (D:Wd × Int):Bool:=decide (D.1.err=15)&&b0w g.hosts D.1.host
def h0w (g:Gt) (f t:Int) (D:Wd × Int):Gt:=if b0q g f t D=true then (if D.1.err=0 then { g with pend:=false,op:=rq0 } else if i0j g D=true then { g with host:=D.1.host,wait:=4 } else g) else g
def g0l (g:Gt) (f t:Int) (D:Wd × Int):List An:=if b0q g f t D=true∧D.1.err=0 then [(g.op,D.1.rep)] else []
def h0v (g:Gt) (f t:Int) (D:Wd × Int):Bool:=b0q g f t D&&(!decide (D.1.err=0)&&i0j g D)
theorem d0f {g:Gt} {f t:Int} {D:Wd × Int} (h:b0q g f t D=false):h0w g f t D=g∧g0l g f t D=[]∧h0v g f t D=false:=by
 unfold h0w g0l h0v
 rw [h]
 refine ⟨if_neg (by simp),if_neg (by simp),rfl⟩
theorem t0a {g:Gt} {f t:Int} {D:Wd × Int} (h:b0q g f t D=true) (h0:D.1.err=0):h0w g f t D={ g with pend:=false,op:=rq0 }∧g0l g f t D=[(g.op,D.1.rep)]∧h0v g f t D=false:=by
 unfold h0w g0l h0v
 rw [h,decide_eq_true h0]
 refine ⟨by rw [if_pos rfl,if_pos h0],if_pos ⟨rfl,h0⟩,rfl⟩
theorem m0k {g:Gt} {f t:Int} {D:Wd × Int} (h:b0q g f t D=true) (h0:D.1.err≠0) (hm:i0j g D=true):h0w g f t D={ g with host:=D.1.host,wait:=4 }∧g0l g f t D=[]∧h0v g f t D=true:=by
 unfold h0w g0l h0v
 rw [h,hm,decide_eq_false h0]
 refine ⟨by rw [if_pos rfl,if_neg h0,if_pos rfl],if_neg (fun hh=>h0 hh.2),rfl⟩
theorem g0y {g:Gt} {f t:Int} {D:Wd × Int} (h:b0q g f t D=true) (h0:D.1.err≠0) (hm:i0j g D=false):h0w g f t D=g∧g0l g f t D=[]∧h0v g f t D=false:=by
 unfold h0w g0l h0v
 rw [h,hm,decide_eq_false h0]
 refine ⟨by rw [if_pos rfl,if_neg h0,if_neg (by simp)],if_neg (fun hh=>h0 hh.2),rfl⟩
theorem l0e {h n:Int}:b0w h n=true↔8≤n∧n<8+h:=by unfold b0w;simp
theorem m0j {g:Gt} {f t:Int} {D:Wd × Int} (h:b0q g f t D=true):g.pend=true:=by
 unfold b0q forB at h
 simp only [Bool.and_eq_true] at h
 exact h.1.1.1
theorem hear_ok {g:Gt} (h:Ok g) (f t:Int) (D:Wd × Int):Ok (h0w g f t D):=by
 unfold h0w
 split
 ·split
  ·exact ⟨h.id,h.hosts,h.next,h.host,h.wait,fun h=>(nomatch h)⟩
  ·split
   ·next hm =>
    unfold i0j at hm
    rw [Bool.and_eq_true] at hm
    exact ⟨h.id,h.hosts,h.next,l0e.1 hm.2,⟨(by decide:(0:Int)≤4),(by decide:(4:Int)≤4)⟩,h.may⟩
   ·exact h
 ·exact h
end Go.Proofs.YtogamdaomdoapaaGreat.G