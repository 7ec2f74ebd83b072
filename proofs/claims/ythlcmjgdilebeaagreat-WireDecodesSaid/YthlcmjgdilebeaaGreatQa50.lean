/- Texts put together: WRd. -/
import Derived.Test.YthlcmjgdilebeaaGreatQa16
import Derived.Test.YthlcmjgdilebeaaGreatQa37
import Derived.Test.YthlcmjgdilebeaaGreatQa42
import Derived.Test.YthlcmjgdilebeaaGreatQa48
import Derived.Test.YthlcmjgdilebeaaGreatQa49
namespace Go.Proofs.YthlcmjgdilebeaaGreat
set_option maxRecDepth 20000
open Go.RowKit
theorem rr_newB {w1:World} {base:Nat} {ao:Option Addr} {cap:Nat} {l:List UInt8} (ho:OwnB w1 base ao cap l) (hbase:base≤w1.heap.size):∃ g,base≤g∧RRAt (w1.alloc (.cells #[.slice ao l.length cap,.bool false] 82)) w1.heap.size g l false:=by
 by_cases hp:0<l.length
 ·obtain ⟨b,off,e,hb,hr⟩:=ho.at hp
  subst e
  exact ⟨b,(own_lt ho b rfl).2,fun e=>(nomatch e),_,cap,heap_new w1 _,ho.le.1,ho.le.2,ho.none,by omega,fun _=>⟨off,rfl,by simp;omega,hr.below hb (below_allocO _ _)⟩⟩
 ·exact ⟨w1.heap.size+1,by omega,fun e=>(nomatch e),ao,cap,heap_new w1 _,ho.le.1,ho.le.2,ho.none,by omega,fun h=>absurd h hp⟩
theorem readBytesKR {W w:World} {L:List Th} {p g:Nat} {rest:List UInt8} {bad:Bool} (h:St W w (thRR p g rest bad::L)) (hm:rest.length≤140737488351232) :
 Calls Tryz.prog 47 #[.pointer (some ⟨p,0,none⟩)] w fun e w'=>∃ ao cap,e=.returned (.slice ao (tookOf rest bad).1.length cap)∧OwnB w' w.heap.size ao cap (tookOf rest bad).1∧St W w' (thRR p g (tookOf rest bad).2.1 (tookOf rest bad).2.2::L)∧Keeps w w' (fun x=>x=p):=by
 refine (rrbytes_any p g rest bad w h.head hm).mono ?_
 rintro e w' ⟨x,r',b',ao,cap,ht,rfl,ho,hr,hk⟩
 rw [←ht]
 exact ⟨ao,cap,rfl,ho,h.readR hr hk (tookOf_le ht).2,hk⟩
structure EightN (p:List UInt8) (k0 k1 k2 k3 k4 k5 k6 k7:Nat) (e1:List UInt8) (b1:Bool) (x1:List UInt8) (y1:Bool) (x2:List UInt8) (y2:Bool) (x3:List UInt8) (y3:Bool) (x4:List UInt8) (y4:Bool) (x5:List UInt8) (y5:Bool) (x6:List UInt8) (y6:Bool) (x7:List UInt8) (y7:Bool):Prop where
 q0:numT p false=(k0,x1,y1)
 q1:numT x1 y1=(k1,x2,y2)
 q2:numT x2 y2=(k2,x3,y3)
 q3:numT x3 y3=(k3,x4,y4)
 q4:numT x4 y4=(k4,x5,y5)
 q5:numT x5 y5=(k5,x6,y6)
 q6:numT x6 y6=(k6,x7,y7)
 q7:numT x7 y7=(k7,e1,b1)
 l0:p.length≤p.length
 l1:x1.length≤p.length
 l2:x2.length≤p.length
 l3:x3.length≤p.length
 l4:x4.length≤p.length
 l5:x5.length≤p.length
 l6:x6.length≤p.length
 l7:x7.length≤p.length
theorem eight_nums {p:List UInt8} {k0 k1 k2 k3 k4 k5 k6 k7 m0 m1 m2:Nat} {e1:List UInt8} {b1:Bool} {sf e2:List UInt8} {b2:Bool} {st e3:List UInt8} {b3:Bool} {e4:List UInt8} {b4:Bool} {r e5:List UInt8} {b5:Bool} (h:WIs p k0 k1 k2 k3 k4 k5 k6 k7 m0 m1 m2 e1 b1 sf e2 b2 st e3 b3 e4 b4 r e5 b5):∃ x1 y1 x2 y2 x3 y3 x4 y4 x5 y5 x6 y6 x7 y7,EightN p k0 k1 k2 k3 k4 k5 k6 k7 e1 b1 x1 y1 x2 y2 x3 y3 x4 y4 x5 y5 x6 y6 x7 y7:=by
 refine ⟨(rdSt p false 1).1,(rdSt p false 1).2,(rdSt p false 2).1,(rdSt p false 2).2,(rdSt p false 3).1,(rdSt p false 3).2,(rdSt p false 4).1,(rdSt p false 4).2,(rdSt p false 5).1,(rdSt p false 5).2,(rdSt p false 6).1,(rdSt p false 6).2,(rdSt p false 7).1,(rdSt p false 7).2,⟨?_,?_,?_,?_,?_,?_,?_,?_,Nat.le_refl _,rdSt_le p false 1,rdSt_le p false 2,rdSt_le p false 3,rdSt_le p false 4,rdSt_le p false 5,rdSt_le p false 6,rdSt_le p false 7⟩⟩
 ·rw [h.v0];exact rd_step p false 0 1 rfl
 ·rw [h.v1];exact rd_step p false 1 2 rfl
 ·rw [h.v2];exact rd_step p false 2 3 rfl
 ·rw [h.v3];exact rd_step p false 3 4 rfl
 ·rw [h.v4];exact rd_step p false 4 5 rfl
 ·rw [h.v5];exact rd_step p false 5 6 rfl
 ·rw [h.v6];exact rd_step p false 6 7 rfl
 ·rw [h.v7,h.hE1,h.hE2];exact rd_step p false 7 8 rfl
theorem withW_err (d:Wd) (r:List UInt8):(withW d r).err=d.err:=by unfold withW;(repeat' split)<;>rfl
theorem may_err {d:Wd} (h:mayW d=true):d.err≤19:=(is_of h).err.2
set_option maxHeartbeats 4000000 in
theorem rdecode_bad (ao:Option Addr) (cap:Nat) (l:List UInt8) (w:World) (h:F.Sl w ao cap l) (hm:l.length≤140737488351232) (c:Nat) (hc:c=(F.oneB l).2) (h0:c≠0) :
 Calls Tryz.prog 13 #[.slice ao l.length cap] w (DecWPost w l):=by
 obtain ⟨n,hn⟩:∃ n,n=l.length:=⟨_,rfl⟩
 have Hone:=Lib.hid (fun (w3:World) (hb:Below w.heap.size w w3)=>F.refOne_any ao cap l w3 (h.grow hb) hm)
 unfold F.OnePost at Hone
 have Hd3:Hid (wdDec l=(zWd,(c:Int))):=by unfold wdDec;rw [←hc,if_neg h0];exact Lib.hid rfl
 obtain ⟨r,c',hr⟩:∃ r c,F.oneB l=(r,c):=⟨_,_,rfl⟩
 rw [hr] at Hone hc
 rw [←hn] at Hone ⊢
 simp only at Hone hc
 subst hc
 have hcI:((c:Int) != 0)=true:=by rw [bne_iff_ne];omega
 clear hr h hm hn h0
 go_enter Tryz.func13,Tryz.ntmps13
 refine wp_holdQ fun R HR=>?_
 refine wp_hold fun C HC=>?_
 go_wp2_with fail
 refine wp_name fun wa hwa=>?_
 obtain ⟨B,hB⟩:∃ B,B=w.heap.size:=⟨_,rfl⟩
 have S:Hid (St w wa [thObj B (.cells #[.int .i64 0,.int .i64 0,.int .i64 0,.int .i64 0,.int .i64 0,.int .i64 0,.int .i64 0,.int .i64 0,.string ⟨#[]⟩,.string ⟨#[]⟩,.int .i64 0,.int .i64 0,.int .i64 0,.string ⟨#[]⟩,.string ⟨#[]⟩,.string ⟨#[]⟩,.string ⟨#[]⟩,.int .i64 0,.int .i64 0,.int .i64 0,.bool false,.int .i64 0,.int .i64 0,.int .i64 0,.int .i64 0,.int .i64 0,.int .i64 0,.int .i64 0,.int .i64 0,.int .i64 0,.slice none 0 0,.int .i64 0,.int .i64 0,.int .i64 0,.int .i64 0,.string ⟨#[]⟩,.slice none 0 0] 46 (0,0))]):=by rw [hwa];exact Lib.hid ((St.start w).objN _ B hB)
 rw [←hB]
 clear hwa hB
 ((have hC:=HC.out);clear HC;subst hC)
 refine wp_hold fun C HC=>?_
 go_wp2_with fail
 refine (Hone.out wa S.out.b).mono ?_
 rintro e w1 ⟨qo,qc,rfl,-,hb1⟩
 have S:=Lib.hid (S.out.grow hb1)
 clear hb1
 go_wp2_with fail
 ((have hC:=HC.out);clear HC;subst hC)
 refine wp_seq ?_
 refine wp_hold fun C HC=>?_
 go_wp2_with fail
 ((have hC:=HC.out);clear HC;subst hC)
 ((refine wp_cond_true rfl ?_);(refine wp_seq ?_);(refine wp_region_lit ?_);((refine list_hold 2 fun L HL=>?_);simp only [List.take_succ_cons,List.take_zero,List.cons_append,List.nil_append]);(go_wp2_with fail);((have hL:=HL.out);clear HL;subst hL;simp only [List.drop_succ_cons,List.drop_zero]);(refine wpList_store_row rfl 46 _ _ rfl B #[.int .i64 0,.int .i64 0,.int .i64 0,.int .i64 0,.int .i64 0,.int .i64 0,.int .i64 0,.int .i64 0,.string ⟨#[]⟩,.string ⟨#[]⟩,.int .i64 0,.int .i64 0,.int .i64 0,.string ⟨#[]⟩,.string ⟨#[]⟩,.string ⟨#[]⟩,.string ⟨#[]⟩,.int .i64 0,.int .i64 0,.int .i64 0,.bool false,.int .i64 0,.int .i64 0,.int .i64 0,.int .i64 0,.int .i64 0,.int .i64 0,.int .i64 0,.int .i64 0,.int .i64 0,.slice none 0 0,.int .i64 0,.int .i64 0,.int .i64 0,.int .i64 0,.string ⟨#[]⟩,.slice none 0 0] rfl rfl 46 _ (S.out).head (by kernel_rfl) rfl (by simp [Value.oneCell']) ?_);(have S2:=Lib.hid (St.setRow37 (S.out) #[.int .i64 0,.int .i64 0,.int .i64 0,.int .i64 0,.int .i64 0,.int .i64 0,.int .i64 0,.int .i64 0,.string ⟨#[]⟩,.string ⟨#[]⟩,.int .i64 0,.int .i64 0,.int .i64 0,.string ⟨#[]⟩,.string ⟨#[]⟩,.string ⟨#[]⟩,.string ⟨#[]⟩,.int .i64 0,.int .i64 0,.int .i64 0,.bool false,.int .i64 0,.int .i64 0,.int .i64 0,.int .i64 0,.int .i64 0,.int .i64 0,.int .i64 0,.int .i64 0,.int .i64 0,.slice none 0 0,.int .i64 0,.int .i64 0,.int .i64 0,.int .i64 0,.string ⟨#[]⟩,.slice none 0 0]));(refine list_name fun w2 hw2=>?_);(rw [←hw2] at S2);clear hw2 S;(go_wp2_with fail);(have hR:=HR.out);clear HR;subst hR;(go_wp2_with fail);(refine bodyPost_ret (results_row_tmp rfl _ _ B 46 _ (0,0) _ rfl S2.out.head Tryz.underlying46 rfl (by kernel_rfl)) rfl ?_);(unfold DecWPost;rw [Hd3.out];exact ⟨none,0,none,0,rfl,S2.out.b,zs_nilR _,sl_nil _⟩))
set_option maxHeartbeats 4000000 in
theorem rdecode_ok (ao:Option Addr) (cap:Nat) (l:List UInt8) (w:World) (h:F.Sl w ao cap l) (hm:l.length≤140737488351232) (p:List UInt8) (hp:F.oneB l=(p,0)) (hs:SmW p) (hs2:(dR p).1.length≤2000) :
 Calls Tryz.prog 13 #[.slice ao l.length cap] w (DecWPost w l):=by
 obtain ⟨n,hn⟩:∃ n,n=l.length:=⟨_,rfl⟩
 have Hone:=Lib.hid (fun (w3:World) (hb:Below w.heap.size w w3)=>F.refOne_any ao cap l w3 (h.grow hb) hm)
 unfold F.OnePost at Hone
 have hback:=oneB_back (l:=l) (by rw [hp])
 rw [hp] at hback
 have Hl:Hid (l=F.frameB p):=hback.1
 have Hpl:Hid (p.length≤1048576):=hback.2
 have Hdec:Hid (wdDec l=if goodW p=true then (wdOf p,0) else (zWd,3)):=by unfold wdDec;rw [hp];exact Lib.hid rfl
 rw [hp] at Hone
 rw [←hn] at Hone ⊢
 simp only at Hone
 have Hs:=Lib.hid hs
 obtain ⟨k0,k1,k2,k3,k4,k5,k6,k7,m0,m1,m2,e1,b1,sf,e2,b2,st,e3,b3,e4,b4,r,e5,b5,hI⟩:=wis p
 obtain ⟨x1,y1,x2,y2,x3,y3,x4,y4,x5,y5,x6,y6,x7,y7,hN⟩:=eight_nums hI
 have Hs2:Hid (r.length≤2000):=by rw [←hI.dr];exact Lib.hid hs2
 have HI:=Lib.hid hI
 have HN:=Lib.hid hN
 clear hp h hn hm hs hs2 hback hI hN
 go_enter Tryz.func13,Tryz.ntmps13
 refine wp_holdQ fun R HR=>?_
 refine wp_hold fun C HC=>?_
 go_wp2_with fail
 refine wp_name fun wa hwa=>?_
 obtain ⟨B,hB⟩:∃ B,B=w.heap.size:=⟨_,rfl⟩
 have S:Hid (St w wa [thObj B (.cells #[.int .i64 0,.int .i64 0,.int .i64 0,.int .i64 0,.int .i64 0,.int .i64 0,.int .i64 0,.int .i64 0,.string ⟨#[]⟩,.string ⟨#[]⟩,.int .i64 0,.int .i64 0,.int .i64 0,.string ⟨#[]⟩,.string ⟨#[]⟩,.string ⟨#[]⟩,.string ⟨#[]⟩,.int .i64 0,.int .i64 0,.int .i64 0,.bool false,.int .i64 0,.int .i64 0,.int .i64 0,.int .i64 0,.int .i64 0,.int .i64 0,.int .i64 0,.int .i64 0,.int .i64 0,.slice none 0 0,.int .i64 0,.int .i64 0,.int .i64 0,.int .i64 0,.string ⟨#[]⟩,.slice none 0 0] 46 (0,0))]):=by rw [hwa];exact Lib.hid ((St.start w).objN _ B hB)
 rw [←hB]
 clear hwa hB
 ((have hC:=HC.out);clear HC;subst hC)
 refine wp_hold fun C HC=>?_
 go_wp2_with fail
 refine (Hone.out wa S.out.b).mono ?_
 rintro e w1 ⟨qo,qc,rfl,ho,hb1⟩
 have Sa:=S
 have S:=Lib.hid (S.out.grow hb1)
 have Ho:=Lib.hid ho
 have Hb1:=Lib.hid hb1
 clear hb1 ho
 go_wp2_with fail
 ((have hC:=HC.out);clear HC;subst hC)
 refine wp_hold fun C HC=>?_
 go_wp2_with fail
 ((have hC:=HC.out);clear HC;subst hC)
 refine wp_hold fun C HC=>?_
 go_wp2_with fail
 refine wp_name fun w2 hw2=>?_
 obtain ⟨P,hP⟩:∃ P,P=w1.heap.size:=⟨_,rfl⟩
 obtain ⟨g,hg1,hg2⟩:=rr_newB Ho.out Hb1.out.size
 have S2:Hid (St w w2 [thRR P g p false,thObj B (.cells #[.int .i64 0,.int .i64 0,.int .i64 0,.int .i64 0,.int .i64 0,.int .i64 0,.int .i64 0,.int .i64 0,.string ⟨#[]⟩,.string ⟨#[]⟩,.int .i64 0,.int .i64 0,.int .i64 0,.string ⟨#[]⟩,.string ⟨#[]⟩,.string ⟨#[]⟩,.string ⟨#[]⟩,.int .i64 0,.int .i64 0,.int .i64 0,.bool false,.int .i64 0,.int .i64 0,.int .i64 0,.int .i64 0,.int .i64 0,.int .i64 0,.int .i64 0,.int .i64 0,.int .i64 0,.slice none 0 0,.int .i64 0,.int .i64 0,.int .i64 0,.int .i64 0,.string ⟨#[]⟩,.slice none 0 0] 46 (0,0))]):=by
  rw [hw2,hP]
  exact Lib.hid (Sa.out.newRR hg2 (Hb1.out.trans ((below_allocO _ _).mono Hb1.out.size)) Hb1.out.size hg1)
 rw [←hP]
 clear hw2 hP S Sa Ho Hb1 hg1 hg2
 ((have hC:=HC.out);clear HC;subst hC)
 refine wp_hold fun C HC=>?_
 refine wp_seq ?_
 refine wp_region_lit ?_
 ((refine list_hold 14 fun L HL=>?_);simp only [List.take_succ_cons,List.take_zero,List.cons_append,List.nil_append])
 go_wp2_with fail
 have hcall:=St.readNumR S2.out (by have:=HN.out.l0;have:=Hpl.out;omega)
 rw [HN.out.q0] at hcall
 refine hcall.mono ?_
 clear hcall
 rintro e v0 ⟨rfl,hS⟩
 have T0:=Lib.hid hS
 dsimp only at T0 ⊢
 clear hS S2
 go_wp2_with fail
 have hcall:=St.readNumR T0.out (by have:=HN.out.l1;have:=Hpl.out;omega)
 rw [HN.out.q1] at hcall
 refine hcall.mono ?_
 clear hcall
 rintro e v1 ⟨rfl,hS⟩
 have T1:=Lib.hid hS
 dsimp only at T1 ⊢
 clear hS T0
 go_wp2_with fail
 have hcall:=St.readNumR T1.out (by have:=HN.out.l2;have:=Hpl.out;omega)
 rw [HN.out.q2] at hcall
 refine hcall.mono ?_
 clear hcall
 rintro e v2 ⟨rfl,hS⟩
 have T2:=Lib.hid hS
 dsimp only at T2 ⊢
 clear hS T1
 go_wp2_with fail
 have hcall:=St.readNumR T2.out (by have:=HN.out.l3;have:=Hpl.out;omega)
 rw [HN.out.q3] at hcall
 refine hcall.mono ?_
 clear hcall
 rintro e v3 ⟨rfl,hS⟩
 have T3:=Lib.hid hS
 dsimp only at T3 ⊢
 clear hS T2
 go_wp2_with fail
 have hcall:=St.readNumR T3.out (by have:=HN.out.l4;have:=Hpl.out;omega)
 rw [HN.out.q4] at hcall
 refine hcall.mono ?_
 clear hcall
 rintro e v4 ⟨rfl,hS⟩
 have T4:=Lib.hid hS
 dsimp only at T4 ⊢
 clear hS T3
 go_wp2_with fail
 have hcall:=St.readNumR T4.out (by have:=HN.out.l5;have:=Hpl.out;omega)
 rw [HN.out.q5] at hcall
 refine hcall.mono ?_
 clear hcall
 rintro e v5 ⟨rfl,hS⟩
 have T5:=Lib.hid hS
 dsimp only at T5 ⊢
 clear hS T4
 go_wp2_with fail
 have hcall:=St.readNumR T5.out (by have:=HN.out.l6;have:=Hpl.out;omega)
 rw [HN.out.q6] at hcall
 refine hcall.mono ?_
 clear hcall
 rintro e v6 ⟨rfl,hS⟩
 have T6:=Lib.hid hS
 dsimp only at T6 ⊢
 clear hS T5
 go_wp2_with fail
 ((have hL:=HL.out);clear HL;subst hL;simp only [List.drop_succ_cons,List.drop_zero])
 ((refine list_hold 1 fun L HL=>?_);simp only [List.take_succ_cons,List.take_zero,List.cons_append,List.nil_append])
 go_wp2_with fail
 ((have hL:=HL.out);clear HL;subst hL;simp only [List.drop_succ_cons,List.drop_zero])
 ((refine list_hold 1 fun L HL=>?_);simp only [List.take_succ_cons,List.take_zero,List.cons_append,List.nil_append])
 go_wp2_with fail
 ((have hL:=HL.out);clear HL;subst hL;simp only [List.drop_succ_cons,List.drop_zero])
 obtain ⟨Q,hQ⟩:∃ Q,Q=v6.heap.size:=⟨_,rfl⟩
 have S3:=T6.out.objN (.cells (wdV zWd (.slice none 0 0) (.slice none 0 0)) 46 (0,0)) Q hQ
 refine wpList_store_row rfl 46 _ _ rfl Q (wdV ⟨k0,k1,k2,k3,k4,k5,k6,0,e0,e0,rq0,zRp,mp0,ch0,[]⟩ (.slice none 0 0) (.slice none 0 0)) (by rw [hQ];rfl) rfl 46 _ S3.head (by kernel_rfl) rfl (by simp [wdV,Value.oneCell']) ?_
 obtain ⟨D1,hD1⟩:∃ D:Wd,D=⟨k0,k1,k2,k3,k4,k5,k6,0,e0,e0,rq0,zRp,mp0,ch0,[]⟩:=⟨_,rfl⟩
 have S4:=(St.setRow37 S3 (wdV ⟨k0,k1,k2,k3,k4,k5,k6,0,e0,e0,rq0,zRp,mp0,ch0,[]⟩ (.slice none 0 0) (.slice none 0 0))).pull (A:=[_])
 refine list_name fun w4 hw4=>?_
 have S5:Hid (St w w4 [thRR P g x7 y7,thObj Q (.cells (wdV D1 (.slice none 0 0) (.slice none 0 0)) 46 (0,0)),thObj B (.cells #[.int .i64 0,.int .i64 0,.int .i64 0,.int .i64 0,.int .i64 0,.int .i64 0,.int .i64 0,.int .i64 0,.string ⟨#[]⟩,.string ⟨#[]⟩,.int .i64 0,.int .i64 0,.int .i64 0,.string ⟨#[]⟩,.string ⟨#[]⟩,.string ⟨#[]⟩,.string ⟨#[]⟩,.int .i64 0,.int .i64 0,.int .i64 0,.bool false,.int .i64 0,.int .i64 0,.int .i64 0,.int .i64 0,.int .i64 0,.int .i64 0,.int .i64 0,.int .i64 0,.int .i64 0,.slice none 0 0,.int .i64 0,.int .i64 0,.int .i64 0,.int .i64 0,.string ⟨#[]⟩,.slice none 0 0] 46 (0,0))]):=by
  rw [hw4,hD1]
  exact Lib.hid S4
 have HD1:=Lib.hid hD1
 rw [←hQ]
 clear hw4 hD1 hQ S3 S4 T6
 go_wp2_with fail
 ((have hC:=HC.out);clear HC;subst hC)
 refine wp_hold fun C HC=>?_
 go_wp2_with fail
 have hcall:=St.readNumR S5.out (by have:=HN.out.l7;have:=Hpl.out;omega)
 rw [HN.out.q7] at hcall
 refine hcall.mono ?_
 clear hcall
 rintro e w5 ⟨rfl,hS⟩
 have S6:=Lib.hid hS
 dsimp only at S6 ⊢
 clear hS S5
 go_wp2_with fail
 ((have hC:=HC.out);clear HC;subst hC)
 refine wp_hold fun C HC=>?_
 obtain ⟨c0,c1,c2,c3,c4,c5,c6,c7,c8,c9,c10,c11,c12,c13,c14,c15,c16,c17,c18,c19,c20,c21,c22,c23,c24,c25,c26,c27,c28,c29,c30,c31,c32,c33,c34,c35,c36⟩:=wboxD (show w5.heap[Q]?=some (.cells (wdV D1 (.slice none 0 0) (.slice none 0 0)) 46 (0,0)) from (S6.out.pull (A:=[_])).head)
 obtain ⟨s1,-,s3⟩:=S6.out.cellsN 1 rfl
 clear c0 c1 c2 c3 c4 c5 c6 c8 c9 c10 c11 c12 c13 c14 c15 c16 c17 c18 c19 c20 c21 c22 c23 c24 c25 c26 c27 c28 c29 c30 c31 c32 c33 c34 c35 c36
 go_wp2_with fail
 refine wp_name fun w6 hw6=>?_
 obtain ⟨D2,hD2⟩:∃ D:Wd,D=⟨k0,k1,k2,k3,k4,k5,k6,k7,e0,e0,rq0,zRp,mp0,ch0,[]⟩:=⟨_,rfl⟩
 have S7:Hid (St w w6.drew [thRR P g e1 b1,thObj Q (.cells (wdV D2 (.slice none 0 0) (.slice none 0 0)) 46 (0,0)),thObj B (.cells #[.int .i64 0,.int .i64 0,.int .i64 0,.int .i64 0,.int .i64 0,.int .i64 0,.int .i64 0,.int .i64 0,.string ⟨#[]⟩,.string ⟨#[]⟩,.int .i64 0,.int .i64 0,.int .i64 0,.string ⟨#[]⟩,.string ⟨#[]⟩,.string ⟨#[]⟩,.string ⟨#[]⟩,.int .i64 0,.int .i64 0,.int .i64 0,.bool false,.int .i64 0,.int .i64 0,.int .i64 0,.int .i64 0,.int .i64 0,.int .i64 0,.int .i64 0,.int .i64 0,.int .i64 0,.slice none 0 0,.int .i64 0,.int .i64 0,.int .i64 0,.int .i64 0,.string ⟨#[]⟩,.slice none 0 0] 46 (0,0))]):=by
  have h:=(S6.out.pull (A:=[_])).setObj 7 (.int .i64 k7)
  rw [wdV_set (d:=D1) 7 (.int .i64 k7) (wdV D2 (.slice none 0 0) (.slice none 0 0)) (by rw [HD1.out,hD2];rfl),←hw6] at h
  exact Lib.hid ((h.pull (A:=[_])).grow (Below.refl _ _).drew)
 have HD2:=Lib.hid hD2
 clear hw6 hD2 s1 s3 c7 S6 HD1
 ((have hC:=HC.out);clear HC;subst hC)
 refine wp_hold fun C HC=>?_
 refine wp_seq ?_
 refine wp_region_noPanic ?_
 refine wp_region_held (S:=fun _=>True) (by kernel_rfl) ?_
 change wpAnyH _ _ _ _ _ _ _ _ (World.drew _)
 (refine takeD (i:=0) (v:=?v0x) 40 rfl rfl (by kernel_rfl) (by kernel_rfl) (by kernel_rfl) (fun _ _ _ h=>h) (Or.inl ⟨by rfl,?hy0x⟩) trivial ?rest0x;(case hy0x=>(intro w _;go_simp;(try with_reducible rfl)));(try simp only [Act.put,List.setIfInBounds_toArray,List.set_cons_zero,List.set_cons_succ]))
 (refine takeD (i:=3) (v:=?v3x) 43 rfl rfl (by kernel_rfl) (by kernel_rfl) (by kernel_rfl) (fun _ _ _ h=>h) (Or.inl ⟨by rfl,?hy3x⟩) trivial ?rest3x;(case hy3x=>(intro w _;go_simp;(try with_reducible rfl)));(try simp only [Act.put,List.setIfInBounds_toArray,List.set_cons_zero,List.set_cons_succ]))
 have hcall:=readBytesKR S7.out (by have:=HI.out.l1;have:=Hpl.out;omega)
 rw [HI.out.hF] at hcall
 (refine wpAnyH_all (rs:=[1]) (by kernel_rfl) (by simp) (fun i' hi'=>?_);(obtain rfl:i'=1:=by simpa using hi');clear hi';(refine wpOp_step rfl (fun K' hK'=>?_)))
 go_simp
 refine hcall.mono ?_
 rintro e w7 ⟨yo,yc,rfl,ho,hS,-⟩
 have hpb:P<w6.drew.heap.size:=(S7.out.t.lts _ (List.mem_cons_self ..) P (.inl rfl)).1
 have S8:=Lib.hid hS
 have Ho:=Lib.hid ho
 dsimp only at S8 Ho ⊢
 have hcv:=conv_str Ho.out.at yc
 refine hK' _ _ ⟨trivial,?_⟩
 clear hK' K' hcall hS ho S7
 try simp only [Act.put,List.setIfInBounds_toArray,List.set_cons_zero,List.set_cons_succ]
 have hcall:=readBytesKR S8.out (by have:=HI.out.l2;have:=Hpl.out;omega)
 rw [HI.out.hG] at hcall
 refine wpAnyH_all (rs:=[2,4]) (by kernel_rfl) (by simp) (fun i' hi'=>?_)
 have hi2:i'=2∨i'=4:=by simpa using hi'
 clear hi'
 rcases hi2 with rfl | rfl
 case' inl =>
  refine wpOp_step rfl (fun K' hK'=>?_)
  go_simp
  refine hK' _ _ ⟨trivial,?_⟩
  clear hK' K' hcv
  try simp only [Act.put,List.setIfInBounds_toArray,List.set_cons_zero,List.set_cons_succ]
  (refine wpAnyH_all (rs:=[4]) (by kernel_rfl) (by simp) (fun i' hi'=>?_);(obtain rfl:i'=4:=by simpa using hi');clear hi';(refine wpOp_step rfl (fun K' hK'=>?_)))
  go_simp
  refine hcall.mono ?_
  rintro e w8 ⟨xo,xc,rfl,ho,hS,-⟩
  have S9:=Lib.hid hS
  have Ho2:=Lib.hid ho
  dsimp only at S9 Ho2 ⊢
  have hcv:=conv_str Ho2.out.at xc
  refine hK' _ _ ⟨trivial,?_⟩
  clear hK' K' hcall hS ho S8
  try simp only [Act.put,List.setIfInBounds_toArray,List.set_cons_zero,List.set_cons_succ]
  (refine wpAnyH_all (rs:=[5]) (by kernel_rfl) (by simp) (fun i' hi'=>?_);(obtain rfl:i'=5:=by simpa using hi');clear hi';(refine wpOp_step rfl (fun K' hK'=>?_)))
  go_simp
  refine hK' _ _ ⟨trivial,?_⟩
  clear hK' K' hcv
  try simp only [Act.put,List.setIfInBounds_toArray,List.set_cons_zero,List.set_cons_succ]
 case' inr =>
  refine wpOp_step rfl (fun K' hK'=>?_)
  go_simp
  refine hcall.mono ?_
  rintro e w8 ⟨xo,xc,rfl,ho,hS,hk⟩
  have S9:=Lib.hid hS
  have Ho2:=Lib.hid ho
  dsimp only at S9 Ho2 ⊢
  have hcv2:=conv_str Ho2.out.at xc
  have hcv1:=conv_str (O.own_past Ho.out hk hpb).at yc
  refine hK' _ _ ⟨trivial,?_⟩
  clear hK' K' hcall hS ho S8 hk hcv
  try simp only [Act.put,List.setIfInBounds_toArray,List.set_cons_zero,List.set_cons_succ]
  refine wpAnyH_all (rs:=[2,5]) (by kernel_rfl) (by simp) (fun i' hi'=>?_)
  have hi2:i'=2∨i'=5:=by simpa using hi'
  clear hi'
  rcases hi2 with rfl | rfl
 case' inr.inl =>
  refine wpOp_step rfl (fun K' hK'=>?_)
  go_simp
  refine hK' _ _ ⟨trivial,?_⟩
  clear hK' K'
  try simp only [Act.put,List.setIfInBounds_toArray,List.set_cons_zero,List.set_cons_succ]
  (refine wpAnyH_all (rs:=[5]) (by kernel_rfl) (by simp) (fun i' hi'=>?_);(obtain rfl:i'=5:=by simpa using hi');clear hi';(refine wpOp_step rfl (fun K' hK'=>?_)))
  go_simp
  refine hK' _ _ ⟨trivial,?_⟩
  clear hK' K'
  try simp only [Act.put,List.setIfInBounds_toArray,List.set_cons_zero,List.set_cons_succ]
 case' inr.inr =>
  refine wpOp_step rfl (fun K' hK'=>?_)
  go_simp
  refine hK' _ _ ⟨trivial,?_⟩
  clear hK' K'
  try simp only [Act.put,List.setIfInBounds_toArray,List.set_cons_zero,List.set_cons_succ]
  (refine wpAnyH_all (rs:=[2]) (by kernel_rfl) (by simp) (fun i' hi'=>?_);(obtain rfl:i'=2:=by simpa using hi');clear hi';(refine wpOp_step rfl (fun K' hK'=>?_)))
  go_simp
  refine hK' _ _ ⟨trivial,?_⟩
  clear hK' K'
  try simp only [Act.put,List.setIfInBounds_toArray,List.set_cons_zero,List.set_cons_succ]
 all_goals
  obtain ⟨D4,hD4⟩:∃ D:Wd,D=⟨k0,k1,k2,k3,k4,k5,k6,k7,⟨sf.toArray⟩,⟨st.toArray⟩,rq0,zRp,mp0,ch0,[]⟩:=⟨_,rfl⟩
  have SX:Hid (St w ((w8.setCell ⟨Q,8,none⟩ (.string ⟨sf.toArray⟩)).setCell ⟨Q,9,none⟩ (.string ⟨st.toArray⟩)) [thRR P g e3 b3,thObj Q (.cells (wdV D4 (.slice none 0 0) (.slice none 0 0)) 46 (0,0)),thObj B (.cells #[.int .i64 0,.int .i64 0,.int .i64 0,.int .i64 0,.int .i64 0,.int .i64 0,.int .i64 0,.int .i64 0,.string ⟨#[]⟩,.string ⟨#[]⟩,.int .i64 0,.int .i64 0,.int .i64 0,.string ⟨#[]⟩,.string ⟨#[]⟩,.string ⟨#[]⟩,.string ⟨#[]⟩,.int .i64 0,.int .i64 0,.int .i64 0,.bool false,.int .i64 0,.int .i64 0,.int .i64 0,.int .i64 0,.int .i64 0,.int .i64 0,.int .i64 0,.int .i64 0,.int .i64 0,.slice none 0 0,.int .i64 0,.int .i64 0,.int .i64 0,.int .i64 0,.string ⟨#[]⟩,.slice none 0 0] 46 (0,0))]):=by
   have h:=((S9.out.pull (A:=[_])).setObj 8 (.string ⟨sf.toArray⟩)).setObj 9 (.string ⟨st.toArray⟩)
   rw [show ((wdV D2 (.slice none 0 0) (.slice none 0 0)).setIfInBounds 8 (.string ⟨sf.toArray⟩)).setIfInBounds 9 (.string ⟨st.toArray⟩)=wdV D4 (.slice none 0 0) (.slice none 0 0) from by rw [HD2.out,hD4];rfl] at h
   exact Lib.hid (h.pull (A:=[_]))
  have HD4:=Lib.hid hD4
  clear hD4 HD2
  (refine wpAnyH_all (rs:=[6]) (by kernel_rfl) (by simp) (fun i' hi'=>?_);(obtain rfl:i'=6:=by simpa using hi');clear hi';(refine wpOp_step rfl (fun K' hK'=>?_)))
  go_simp
  refine hK' _ _ ⟨trivial,?_⟩
  clear hK' K'
  try simp only [Act.put,List.setIfInBounds_toArray,List.set_cons_zero,List.set_cons_succ]
  (refine wpAnyH_all (rs:=[7]) (by kernel_rfl) (by simp) (fun i' hi'=>?_);(obtain rfl:i'=7:=by simpa using hi');clear hi';(refine wpOp_step rfl (fun K' hK'=>?_)))
  go_simp
  refine hK' _ _ ⟨trivial,?_⟩
  clear hK' K'
  try simp only [Act.put,List.setIfInBounds_toArray,List.set_cons_zero,List.set_cons_succ]
  obtain ⟨s1,-,s3⟩:=S9.out.cellsN 1 rfl
  obtain ⟨c0,c1,c2,c3,c4,c5,c6,c7,c8,c9,c10,c11,c12,c13,c14,c15,c16,c17,c18,c19,c20,c21,c22,c23,c24,c25,c26,c27,c28,c29,c30,c31,c32,c33,c34,c35,c36⟩:=wboxD (show w8.heap[Q]?=some (.cells (wdV D2 (.slice none 0 0) (.slice none 0 0)) 46 (0,0)) from (S9.out.pull (A:=[_])).head)
  clear c0 c1 c2 c3 c4 c5 c6 c7 c10 c11 c12 c13 c14 c15 c16 c17 c18 c19 c20 c21 c22 c23 c24 c25 c26 c27 c28 c29 c30 c31 c32 c33 c34 c35 c36
  (refine wpAnyH_all (rs:=[8]) (by kernel_rfl) (by simp) (fun i' hi'=>?_);(obtain rfl:i'=8:=by simpa using hi');clear hi';(refine wpOp_step rfl (fun K' hK'=>?_)))
  go_simp
  refine hK' _ _ ⟨trivial,?_⟩
  clear hK' K'
  refine wpAnyH_done (by kernel_rfl) ?_ _
  refine NoPanic.normal ?_
  clear S9 s1 s3 c8 c9 Ho Ho2
  refine wp_name fun w9 hw9=>?_
  rw [←hw9] at SX
  clear hw9
  go_wp2_with fail
  ((have hC:=HC.out);clear HC;subst hC)
  refine wp_hold fun CT HCT=>?_
  refine wp_seq ?_
  refine wp_hold fun C HC=>?_
  refine wp_seq ?_
  refine wp_region_lit ?_
  ((refine list_hold 8 fun L HL=>?_);simp only [List.take_succ_cons,List.take_zero,List.cons_append,List.nil_append])
  go_wp2_with fail
  refine (rrest_any HI.out Hpl.out HD4.out SX.out Hs2.out).mono ?_
  rintro e wA ⟨VQ,e',b',hS,rfl,hok⟩
  have SA:=Lib.hid hS
  obtain ⟨ok,hokb⟩:∃ b,b=(okRest k0 r&&wholeW p):=⟨_,rfl⟩
  rw [←hokb]
  have HO:=Lib.hid hok
  have Hok:=Lib.hid hokb
  clear hS hok hokb SX HD4
  cases ok with
  | false =>
   have Hd3:Hid (wdDec l=(zWd,3)):=by
    rw [Hdec.out,if_neg]
    ·exact Lib.hid rfl
    ·have h:=Hok.out
     unfold goodW
     rw [HI.out.dk,HI.out.dr,Bool.and_comm (wholeW p),←h]
     simp
   go_wp2_with fail
   ((have hL:=HL.out);clear HL;subst hL;simp only [List.drop_succ_cons,List.drop_zero])
   go_wp2_with fail
   ((have hC:=HC.out);clear HC;subst hC)
   ((refine wp_cond_true rfl ?_);(refine wp_seq ?_);(refine wp_region_lit ?_);((refine list_hold 1 fun L HL=>?_);simp only [List.take_succ_cons,List.take_zero,List.cons_append,List.nil_append]);(go_wp2_with fail);((have hL:=HL.out);clear HL;subst hL;simp only [List.drop_succ_cons,List.drop_zero]);(refine wpList_store_row rfl 46 _ _ rfl B #[.int .i64 0,.int .i64 0,.int .i64 0,.int .i64 0,.int .i64 0,.int .i64 0,.int .i64 0,.int .i64 0,.string ⟨#[]⟩,.string ⟨#[]⟩,.int .i64 0,.int .i64 0,.int .i64 0,.string ⟨#[]⟩,.string ⟨#[]⟩,.string ⟨#[]⟩,.string ⟨#[]⟩,.int .i64 0,.int .i64 0,.int .i64 0,.bool false,.int .i64 0,.int .i64 0,.int .i64 0,.int .i64 0,.int .i64 0,.int .i64 0,.int .i64 0,.int .i64 0,.int .i64 0,.slice none 0 0,.int .i64 0,.int .i64 0,.int .i64 0,.int .i64 0,.string ⟨#[]⟩,.slice none 0 0] rfl rfl 46 _ ((SA.out.pull (A:=[_,_]))).head (by kernel_rfl) rfl (by simp [Value.oneCell']) ?_);(have S2:=Lib.hid (St.setRow37 ((SA.out.pull (A:=[_,_]))) #[.int .i64 0,.int .i64 0,.int .i64 0,.int .i64 0,.int .i64 0,.int .i64 0,.int .i64 0,.int .i64 0,.string ⟨#[]⟩,.string ⟨#[]⟩,.int .i64 0,.int .i64 0,.int .i64 0,.string ⟨#[]⟩,.string ⟨#[]⟩,.string ⟨#[]⟩,.string ⟨#[]⟩,.int .i64 0,.int .i64 0,.int .i64 0,.bool false,.int .i64 0,.int .i64 0,.int .i64 0,.int .i64 0,.int .i64 0,.int .i64 0,.int .i64 0,.int .i64 0,.int .i64 0,.slice none 0 0,.int .i64 0,.int .i64 0,.int .i64 0,.int .i64 0,.string ⟨#[]⟩,.slice none 0 0]));(refine list_name fun w2 hw2=>?_);(rw [←hw2] at S2);clear hw2 SA;(go_wp2_with fail);(have hR:=HR.out);clear HR;subst hR;(go_wp2_with fail);(refine bodyPost_ret (results_row_tmp rfl _ _ B 46 _ (0,0) _ rfl S2.out.head Tryz.underlying46 rfl (by kernel_rfl)) rfl ?_);(unfold DecWPost;rw [Hd3.out];exact ⟨none,0,none,0,rfl,S2.out.b,zs_nilR _,sl_nil _⟩))
  | true =>
   have hok2:=Hok.out
   rw [eq_comm,Bool.and_eq_true] at hok2
   obtain ⟨mo,zc,dl,dc,hVQ,hz,hsl⟩:=HO.out hok2.1
   obtain ⟨X,hX⟩:∃ X,X=wdOf p:=⟨_,rfl⟩
   rw [←hX] at hVQ hz hsl
   have HLi:Hid (Light X):=Lib.hid (by rw [hX];exact Hs.out.li hok2.2 (by rw [HI.out.dk,HI.out.dr];exact hok2.1))
   have hsz:VQ.size=37:=by rw [hVQ];rfl
   have hmy:=rmayW_any hVQ mo dl zc dc rfl rfl wA hz hsl.at_ HLi.out.mp.n
   rw [docW_eq] at hmy
   have Hgw:Hid (goodW p=mayW X):=by unfold goodW;rw [hok2.2,HI.out.dk,HI.out.dr,hok2.1,←hX];exact Lib.hid rfl
   have Hxe:Hid (X.err=k7):=by rw [hX];unfold wdOf;rw [withW_err,HI.out.base];exact Lib.hid rfl
   obtain ⟨my,hmb⟩:∃ b,b=mayW X:=⟨_,rfl⟩
   rw [←hmb] at hmy Hgw
   have Hmb:=Lib.hid hmb
   have Hmy:=Lib.hid hmy
   have HVQ:=Lib.hid hVQ
   have HZ:=Lib.hid hz
   have HSl:=Lib.hid hsl
   have HX:=Lib.hid hX
   clear hVQ hz hsl hX HO hok2 hmy hmb Hok
   rcases Bool.eq_false_or_eq_true (decide ((19:Int)<k7)) with t1 | t1
   ·have Hd3:Hid (wdDec l=(zWd,3)):=by
     rw [Hdec.out,if_neg]
     ·exact Lib.hid rfl
     ·rw [Hgw.out,Hmb.out]
      intro h
      have h2:=may_err h
      rw [Hxe.out] at h2
      rw [decide_eq_true_eq] at t1
      omega
    go_wp2_with fail
    ((have hL:=HL.out);clear HL;subst hL;simp only [List.drop_succ_cons,List.drop_zero])
    go_wp2_with fail
    ((have hC:=HC.out);clear HC;subst hC)
    ((refine wp_cond_true rfl ?_);(refine wp_seq ?_);(refine wp_region_lit ?_);((refine list_hold 1 fun L HL=>?_);simp only [List.take_succ_cons,List.take_zero,List.cons_append,List.nil_append]);(go_wp2_with fail);((have hL:=HL.out);clear HL;subst hL;simp only [List.drop_succ_cons,List.drop_zero]);(refine wpList_store_row rfl 46 _ _ rfl B #[.int .i64 0,.int .i64 0,.int .i64 0,.int .i64 0,.int .i64 0,.int .i64 0,.int .i64 0,.int .i64 0,.string ⟨#[]⟩,.string ⟨#[]⟩,.int .i64 0,.int .i64 0,.int .i64 0,.string ⟨#[]⟩,.string ⟨#[]⟩,.string ⟨#[]⟩,.string ⟨#[]⟩,.int .i64 0,.int .i64 0,.int .i64 0,.bool false,.int .i64 0,.int .i64 0,.int .i64 0,.int .i64 0,.int .i64 0,.int .i64 0,.int .i64 0,.int .i64 0,.int .i64 0,.slice none 0 0,.int .i64 0,.int .i64 0,.int .i64 0,.int .i64 0,.string ⟨#[]⟩,.slice none 0 0] rfl rfl 46 _ ((SA.out.pull (A:=[_,_]))).head (by kernel_rfl) rfl (by simp [Value.oneCell']) ?_);(have S2:=Lib.hid (St.setRow37 ((SA.out.pull (A:=[_,_]))) #[.int .i64 0,.int .i64 0,.int .i64 0,.int .i64 0,.int .i64 0,.int .i64 0,.int .i64 0,.int .i64 0,.string ⟨#[]⟩,.string ⟨#[]⟩,.int .i64 0,.int .i64 0,.int .i64 0,.string ⟨#[]⟩,.string ⟨#[]⟩,.string ⟨#[]⟩,.string ⟨#[]⟩,.int .i64 0,.int .i64 0,.int .i64 0,.bool false,.int .i64 0,.int .i64 0,.int .i64 0,.int .i64 0,.int .i64 0,.int .i64 0,.int .i64 0,.int .i64 0,.int .i64 0,.slice none 0 0,.int .i64 0,.int .i64 0,.int .i64 0,.int .i64 0,.string ⟨#[]⟩,.slice none 0 0]));(refine list_name fun w2 hw2=>?_);(rw [←hw2] at S2);clear hw2 SA;(go_wp2_with fail);(have hR:=HR.out);clear HR;subst hR;(go_wp2_with fail);(refine bodyPost_ret (results_row_tmp rfl _ _ B 46 _ (0,0) _ rfl S2.out.head Tryz.underlying46 rfl (by kernel_rfl)) rfl ?_);(unfold DecWPost;rw [Hd3.out];exact ⟨none,0,none,0,rfl,S2.out.b,zs_nilR _,sl_nil _⟩))
   go_wp2_with fail
   ((have hL:=HL.out);clear HL;subst hL;simp only [List.drop_succ_cons,List.drop_zero])
   refine wpList_load_rowG (by rfl) 46 _ rfl Q rfl _ _ _ _ (SA.out.pull (A:=[_])).head Tryz.underlying46 rfl (by rw [hsz];kernel_rfl) ?_
   go_wp2_with fail
   refine Hmy.out.mono ?_
   rintro e wC ⟨rfl,hbC⟩
   have SC:=Lib.hid (SA.out.grow hbC)
   have HZC:=Lib.hid (HZ.out.grow hbC)
   have HSC:=Lib.hid (HSl.out.grow hbC)
   clear hbC SA HZ HSl Hmy t1
   cases my with
   | false =>
    have Hd3:Hid (wdDec l=(zWd,3)):=by
     rw [Hdec.out,if_neg]
     ·exact Lib.hid rfl
     ·rw [Hgw.out];simp
    go_wp2_with fail
    ((have hC:=HC.out);clear HC;subst hC)
    ((refine wp_cond_true rfl ?_);(refine wp_seq ?_);(refine wp_region_lit ?_);((refine list_hold 1 fun L HL=>?_);simp only [List.take_succ_cons,List.take_zero,List.cons_append,List.nil_append]);(go_wp2_with fail);((have hL:=HL.out);clear HL;subst hL;simp only [List.drop_succ_cons,List.drop_zero]);(refine wpList_store_row rfl 46 _ _ rfl B #[.int .i64 0,.int .i64 0,.int .i64 0,.int .i64 0,.int .i64 0,.int .i64 0,.int .i64 0,.int .i64 0,.string ⟨#[]⟩,.string ⟨#[]⟩,.int .i64 0,.int .i64 0,.int .i64 0,.string ⟨#[]⟩,.string ⟨#[]⟩,.string ⟨#[]⟩,.string ⟨#[]⟩,.int .i64 0,.int .i64 0,.int .i64 0,.bool false,.int .i64 0,.int .i64 0,.int .i64 0,.int .i64 0,.int .i64 0,.int .i64 0,.int .i64 0,.int .i64 0,.int .i64 0,.slice none 0 0,.int .i64 0,.int .i64 0,.int .i64 0,.int .i64 0,.string ⟨#[]⟩,.slice none 0 0] rfl rfl 46 _ ((SC.out.pull (A:=[_,_]))).head (by kernel_rfl) rfl (by simp [Value.oneCell']) ?_);(have S2:=Lib.hid (St.setRow37 ((SC.out.pull (A:=[_,_]))) #[.int .i64 0,.int .i64 0,.int .i64 0,.int .i64 0,.int .i64 0,.int .i64 0,.int .i64 0,.int .i64 0,.string ⟨#[]⟩,.string ⟨#[]⟩,.int .i64 0,.int .i64 0,.int .i64 0,.string ⟨#[]⟩,.string ⟨#[]⟩,.string ⟨#[]⟩,.string ⟨#[]⟩,.int .i64 0,.int .i64 0,.int .i64 0,.bool false,.int .i64 0,.int .i64 0,.int .i64 0,.int .i64 0,.int .i64 0,.int .i64 0,.int .i64 0,.int .i64 0,.int .i64 0,.slice none 0 0,.int .i64 0,.int .i64 0,.int .i64 0,.int .i64 0,.string ⟨#[]⟩,.slice none 0 0]));(refine list_name fun w2 hw2=>?_);(rw [←hw2] at S2);clear hw2 SC;(go_wp2_with fail);(have hR:=HR.out);clear HR;subst hR;(go_wp2_with fail);(refine bodyPost_ret (results_row_tmp rfl _ _ B 46 _ (0,0) _ rfl S2.out.head Tryz.underlying46 rfl (by kernel_rfl)) rfl ?_);(unfold DecWPost;rw [Hd3.out];exact ⟨none,0,none,0,rfl,S2.out.b,zs_nilR _,sl_nil _⟩))
   | true =>
    have Hd0:Hid (wdDec l=(X,0)):=by rw [Hdec.out,if_pos Hgw.out,HX.out];exact Lib.hid rfl
    go_wp2_with fail
    ((have hC:=HC.out);clear HC;subst hC)
    refine wp_cond_false rfl ?_
    go_wp2_with fail
    (have hC:=HCT.out);clear HCT;subst hC
    refine wp_seq ?_
    refine wp_region_lit ?_
    refine wpList_load_row rfl 46 _ rfl Q rfl _ _ _ _ (SC.out.pull (A:=[_])).head Tryz.underlying46 rfl (by rw [hsz];kernel_rfl) ?_
    have h1:VQ.all (·.oneCell')=true:=by rw [HVQ.out];simp [wdV,Value.oneCell']
    have hBh:=(SC.out.pull (A:=[_,_])).head
    refine wpList_store_row rfl 46 _ _ rfl B VQ rfl rfl 46 _ hBh (by rw [hsz];kernel_rfl) (by rw [hsz];rfl) h1 ?_
    have S2:=Lib.hid (St.setRow37 (SC.out.pull (A:=[_,_])) VQ)
    have HZ2:=Lib.hid (zsat_row (cs:=VQ) HZC.out (zs_apart (d:=zWd) hBh HZC.out))
    have HS2:=Lib.hid (slof_row (cs:=VQ) HSC.out (sl_apart (d:=zWd) hBh HSC.out))
    refine list_name fun w2 hw2=>?_
    rw [←hw2] at S2 HZ2 HS2
    clear hw2 SC h1 hBh
    go_wp2_with fail
    (have hR:=HR.out);clear HR;subst hR
    go_wp2_with fail
    refine bodyPost_ret (results_row_tmp rfl _ _ B 46 _ (0,0) _ rfl S2.out.head Tryz.underlying46 rfl (by rw [hsz];kernel_rfl)) rfl ?_
    unfold DecWPost
    rw [Hd0.out]
    exact ⟨mo,zc,dl,dc,by rw [HVQ.out];rfl,S2.out.b,HZ2.out,HS2.out⟩
end Go.Proofs.YthlcmjgdilebeaaGreat