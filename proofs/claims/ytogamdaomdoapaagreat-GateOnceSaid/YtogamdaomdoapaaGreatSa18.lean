/- Texts put together: ODc, RdOld, ORd. -/
import Derived.Test.YtogamdaomdoapaaGreatSa10
import Derived.Test.YtogamdaomdoapaaGreatSa16
import Derived.Test.YtogamdaomdoapaaGreatSa17
namespace Go.Proofs.YtogamdaomdoapaaGreat.O
open Go.RowKit
set_option maxRecDepth 20000
theorem equal_any (ao bo:Option Addr) (ca cb:Nat) (a b:List UInt8) (w:World) (ha:BAt w ao a) (hb:BAt w bo b) :
 Calls Tryz.prog 53 #[.slice ao a.length ca,.slice bo b.length cb] w fun e w'=>e=.returned (.bool (a==b))∧w=w':=by
 have h1:=conv_str ha ca
 have h2:=conv_str hb cb
 clear ha hb
 go_enter Tryz.func53,Tryz.ntmps53
 go_wp2_with fail
 go_ret
 exact ⟨rfl,rfl⟩
def DecMPost (w:World) (l:List UInt8) (good:Value) (bad:Value) (e:Ending) (w':World):Prop:=Below w.heap.size w w' ∧
 if goodM l=true then ∃ zo zc,e=.returned (.tuple #[.agg #[.int .i64 (decM l).1.ver,.int .i64 (decM l).1.next,.slice zo (decM l).1.zs.length zc],good])∧ZsAt w' zo (decM l).1.zs∧(zo=none→(decM l).1.zs.length=0∧zc=0) else e=.returned (.tuple #[.agg #[.int .i64 0,.int .i64 0,.slice none 0 0],bad])
theorem row_zs {w:World} {base zc:Nat} {zo:Option Addr} {L:List Zn} (h:w.ownsRow base 125 9 (.slice zo L.length zc) L.length (znR L)):ZsAt w zo L:=fun hp=>by
 have h':=h
 rcases h'.2 with ⟨hv,h0⟩ | ⟨g,c,cur,hv,hg,hh,-⟩
 ·omega
 ·simp only [Value.slice.injEq] at hv
  obtain ⟨rfl,-,-⟩:=hv
  exact ⟨g,0,rfl,OwnZ.atO h⟩
theorem row_none {w:World} {base zc:Nat} {zo:Option Addr} {L:List Zn} (h:w.ownsRow base 125 9 (.slice zo L.length zc) L.length (znR L)):zo=none→L.length=0∧zc=0:=fun e=>by
 subst e
 rcases h.2 with ⟨hv,h0⟩ | ⟨g,c,cur,hv,-⟩
 ·simp only [Value.slice.injEq,true_and] at hv
  exact hv
 ·simp at hv
set_option maxHeartbeats 4000000 in
theorem pdecM_any (ao:Option Addr) (cap:Nat) (l:List UInt8) (w:World) (h0:ao=none→l.length=0∧cap=0) (ha:BAt w ao l) (hm:l.length≤18000) :
 Calls Tryz.prog 84 #[.slice ao l.length cap] w (DecMPost w l (.int .i64 0) (.int .i64 3)):=by
 have Ha:=Lib.hid ha
 have H0:=Lib.hid h0
 obtain ⟨i0,hii,hz0,hz1,hz2⟩:=info_parts zoneInfoO
 clear ha h0
 go_enter Tryz.func84,Tryz.ntmps84
 go_wp2_with fail
 have S0:Hid (St w _ [thObj (w.heap.size+1) (.cells #[.int .i64 0,.int .i64 0,.slice none 0 0] 44),thObj w.heap.size (.cells #[.int .i64 0,.int .i64 0,.slice none 0 0] 44)]):=((St.start w).objN (.cells #[.int .i64 0,.int .i64 0,.slice none 0 0] 44) w.heap.size rfl).objN (.cells #[.int .i64 0,.int .i64 0,.slice none 0 0] 44) (w.heap.size+1) (by simp)
 refine (newReader_any ao cap l _ H0.out (Ha.out.below S0.out.b) (by omega)).mono ?_
 rintro e w1 ⟨p,g,rfl,hr,hb,hp,hg⟩
 have S1:=Lib.hid (S0.out.newRd hr hb hp hg)
 clear S0 hr hb hp hg
 go_wp2_with fail
 refine (St.readNums (O:=[(w.heap.size+1,#[.int .i64 0,.int .i64 0,.slice none 0 0],44),(w.heap.size,#[.int .i64 0,.int .i64 0,.slice none 0 0],44)]) (L:=[]) S1.out (by omega) [(0,0),(0,1)] ?_ w1.heap.size 2 rfl rfl (by simp) _ _ rfl).mono ?_
 ·intro q hq
  simp only [List.mem_cons,List.not_mem_nil,or_false] at hq
  rcases hq with rfl | rfl<;>exact ⟨_,_,rfl,rfl⟩
 rintro e w2 ⟨rfl,hS⟩
 obtain ⟨ver,hver⟩:∃ v,v=rdVal l false 0:=⟨_,rfl⟩
 obtain ⟨nx,hnx⟩:∃ v,v=rdVal l false 1:=⟨_,rfl⟩
 have S2:Hid (St w w2 [thRd p g (rdSt l false 2).1 (rdSt l false 2).2,thObj (w.heap.size+1) (.cells #[.int .i64 (ver:Nat),.int .i64 (nx:Nat),.slice none 0 0] 44),thObj w.heap.size (.cells #[.int .i64 0,.int .i64 0,.slice none 0 0] 44)]):=by
  rw [hver,hnx]
  exact hS
 have Hver:=Lib.hid hver
 have Hnx:=Lib.hid hnx
 clear hS S1 hver hnx
 go_wp2_with fail
 have hl2:=rdSt_le l false 2
 have hcall:=St.readNum S2.out (by omega)
 rw [rd_step l false 2 3 rfl] at hcall
 refine hcall.mono ?_
 rintro e w3 ⟨rfl,hS⟩
 have S3:=Lib.hid hS
 have HI:=Lib.hid (RdI.start l)
 obtain ⟨r,b,hrb⟩:∃ r b,rdSt l false 3=(r,b):=⟨_,_,rfl⟩
 obtain ⟨j,hj⟩:∃ j,j=rdVal l false 2:=⟨_,rfl⟩
 dsimp only at S3 ⊢
 rw [hrb] at S3 HI
 rw [←hj] at HI ⊢
 dsimp only at S3 HI
 have hjl:j≤4611686018427387904:=by rw [hj];exact rdVal_le _ _ _
 clear hcall hS S2 hl2 hrb hj
 go_wp2_with fail
 go_loopw [6] (fun s wr=>∃ (j:Nat) (r:List UInt8) (b:Bool) (L:List Zn) (zo:Option Addr) (zc:Nat),s=.int .i64 j∧j≤4611686018427387904∧Hid (RdI l j L r b)∧Hid (St w wr [thRd p g r b,thObj (w.heap.size+1) (.cells #[.int .i64 (ver:Nat),.int .i64 (nx:Nat),.slice zo L.length zc] 44),thRow w.heap.size 125 9 zo L.length zc (znR L),thObj w.heap.size (.cells #[.int .i64 0,.int .i64 0,.slice none 0 0] 44)])) (fun s _=>(intOf s).toNat)
 case atStart=>exact ⟨j,r,b,[],none,0,rfl,hjl,HI,Lib.hid ((S3.out.nilRow _ _).perm (by refine (List.Perm.swap _ _ _).trans (List.Perm.cons _ (List.Perm.swap _ _ _))))⟩
 case round =>
  clear S3 HI hjl
  obtain ⟨j,r,b,L,zo,zc,rfl,hjl,HI,S3⟩:=hrel
  by_cases hgo:0<j∧b=false
  ·obtain ⟨hj0,rfl⟩:=hgo
   have hji:(0:Int)<j:=by omega
   have hgd:=good_any p g r false wr S3.out.head
   obtain ⟨j,rfl⟩:∃ k,j=k+1:=⟨j - 1,by omega⟩
   go_wp2_with fail
   refine hgd.mono ?_
   rintro e w4 ⟨rfl,rfl⟩
   obtain ⟨zid,fr,to,owner,epoch,pend,tt,key,nw,r1,b1,r2,b2,r3,b3,r4,b4,r5,b5,r6,b6,hz⟩:=zis r false
   have Hz:=Lib.hid hz
   have hrl:r.length≤18000:=by have:=HI.out.left;omega
   clear hz hgd
   go_wp2_with fail
   obtain ⟨bx,hbx⟩:∃ bx,bx=wr.heap.size:=⟨_,rfl⟩
   have S4:Hid (St w _ [thRd p g r false,thObj bx (.cells #[.int .i64 0,.string ⟨#[]⟩,.string ⟨#[]⟩,.int .i64 0,.int .i64 0,.int .i64 0,.int .i64 0,.string ⟨#[]⟩,.int .i64 0] 125),thObj (w.heap.size+1) (.cells #[.int .i64 (ver:Nat),.int .i64 (nx:Nat),.slice zo L.length zc] 44),thRow w.heap.size 125 9 zo L.length zc (znR L),thObj w.heap.size (.cells #[.int .i64 0,.int .i64 0,.slice none 0 0] 44)]):=Lib.hid ((S3.out.objN (.cells #[.int .i64 0,.string ⟨#[]⟩,.string ⟨#[]⟩,.int .i64 0,.int .i64 0,.int .i64 0,.int .i64 0,.string ⟨#[]⟩,.int .i64 0] 125) bx hbx).pull (A:=[_]))
   have hbl:w.heap.size+1<bx:=by rw [hbx];exact (S3.out.cellsN 1 rfl).1
   rw [←hbx]
   clear S3 hbx
   have hcall:=St.readNum S4.out (by omega)
   rw [Hz.out.e1] at hcall
   refine hcall.mono ?_
   rintro e w5 ⟨rfl,hS⟩
   have T:=Lib.hid hS
   obtain ⟨c1,c2,c3⟩:=T.out.cellsN 1 rfl
   clear hcall hS S4
   go_wp2_with fail
   have S5:Hid (St w (w5.setCell ⟨bx,0,none⟩ (.int .i64 (zid:Nat))) [thRd p g r1 b1,thObj bx (.cells #[.int .i64 (zid:Nat),.string ⟨#[]⟩,.string ⟨#[]⟩,.int .i64 0,.int .i64 0,.int .i64 0,.int .i64 0,.string ⟨#[]⟩,.int .i64 0] 125),thObj (w.heap.size+1) (.cells #[.int .i64 (ver:Nat),.int .i64 (nx:Nat),.slice zo L.length zc] 44),thRow w.heap.size 125 9 zo L.length zc (znR L),thObj w.heap.size (.cells #[.int .i64 0,.int .i64 0,.slice none 0 0] 44)]):=Lib.hid (((T.out.pull (A:=[_])).setObj 0 (.int .i64 (zid:Nat))).pull (A:=[_]))
   clear T c1 c2 c3
   have hcall:=St.readBytes S5.out (by have:=Hz.out.l1;omega)
   rw [Hz.out.e2] at hcall
   refine hcall.mono ?_
   rintro e w6 ⟨yo,yc,rfl,ho,hS⟩
   have T:=Lib.hid hS
   obtain ⟨c1,c2,c3⟩:=T.out.cellsN 1 rfl
   have hcv:=conv_str ho.at yc
   clear hcall hS S5 ho
   go_wp2_with fail
   have S6:Hid (St w (w6.setCell ⟨bx,1,none⟩ (.string ⟨fr.toArray⟩)) [thRd p g r2 b2,thObj bx (.cells #[.int .i64 (zid:Nat),.string ⟨fr.toArray⟩,.string ⟨#[]⟩,.int .i64 0,.int .i64 0,.int .i64 0,.int .i64 0,.string ⟨#[]⟩,.int .i64 0] 125),thObj (w.heap.size+1) (.cells #[.int .i64 (ver:Nat),.int .i64 (nx:Nat),.slice zo L.length zc] 44),thRow w.heap.size 125 9 zo L.length zc (znR L),thObj w.heap.size (.cells #[.int .i64 0,.int .i64 0,.slice none 0 0] 44)]):=Lib.hid (((T.out.pull (A:=[_])).setObj 1 (.string ⟨fr.toArray⟩)).pull (A:=[_]))
   clear T c1 c2 c3 hcv
   have hcall:=St.readBytes S6.out (by have:=Hz.out.l2;omega)
   rw [Hz.out.e3] at hcall
   refine hcall.mono ?_
   rintro e w7 ⟨yo,yc,rfl,ho,hS⟩
   have T:=Lib.hid hS
   obtain ⟨c1,c2,c3⟩:=T.out.cellsN 1 rfl
   have hcv:=conv_str ho.at yc
   clear hcall hS S6 ho
   go_wp2_with fail
   have S7:Hid (St w (w7.setCell ⟨bx,2,none⟩ (.string ⟨to.toArray⟩)) [thRd p g r3 b3,thObj bx (.cells #[.int .i64 (zid:Nat),.string ⟨fr.toArray⟩,.string ⟨to.toArray⟩,.int .i64 0,.int .i64 0,.int .i64 0,.int .i64 0,.string ⟨#[]⟩,.int .i64 0] 125),thObj (w.heap.size+1) (.cells #[.int .i64 (ver:Nat),.int .i64 (nx:Nat),.slice zo L.length zc] 44),thRow w.heap.size 125 9 zo L.length zc (znR L),thObj w.heap.size (.cells #[.int .i64 0,.int .i64 0,.slice none 0 0] 44)]):=Lib.hid (((T.out.pull (A:=[_])).setObj 2 (.string ⟨to.toArray⟩)).pull (A:=[_]))
   clear T c1 c2 c3 hcv
   refine (St.readNums (O:=[(bx,#[.int .i64 (zid:Nat),.string ⟨fr.toArray⟩,.string ⟨to.toArray⟩,.int .i64 0,.int .i64 0,.int .i64 0,.int .i64 0,.string ⟨#[]⟩,.int .i64 0],125)]) (L:=[thObj (w.heap.size+1) (.cells #[.int .i64 (ver:Nat),.int .i64 (nx:Nat),.slice zo L.length zc] 44),thRow w.heap.size 125 9 zo L.length zc (znR L),thObj w.heap.size (.cells #[.int .i64 0,.int .i64 0,.slice none 0 0] 44)]) S7.out (by have:=Hz.out.l3;omega) [(0,3),(0,4),(0,5),(0,6)] ?_ w7.heap.size 4 (by simp [World.setCell]) rfl (by simp) _ _ rfl).mono ?_
   ·intro q hq
    simp only [List.mem_cons,List.not_mem_nil,or_false] at hq
    rcases hq with rfl | rfl | rfl | rfl<;>exact ⟨_,_,rfl,rfl⟩
   rintro e w8 ⟨rfl,hS⟩
   have S8:Hid (St w w8 [thRd p g r4 b4,thObj bx (.cells #[.int .i64 (zid:Nat),.string ⟨fr.toArray⟩,.string ⟨to.toArray⟩,.int .i64 (owner:Nat),.int .i64 (epoch:Nat),.int .i64 (pend:Nat),.int .i64 (tt:Nat),.string ⟨#[]⟩,.int .i64 0] 125),thObj (w.heap.size+1) (.cells #[.int .i64 (ver:Nat),.int .i64 (nx:Nat),.slice zo L.length zc] 44),thRow w.heap.size 125 9 zo L.length zc (znR L),thObj w.heap.size (.cells #[.int .i64 0,.int .i64 0,.slice none 0 0] 44)]):=by
    rw [Hz.out.v0,Hz.out.v1,Hz.out.v2,Hz.out.v3]
    have h:=hS
    rw [Hz.out.e4] at h
    exact Lib.hid h
   clear hS S7
   go_wp2_with fail
   have hcall:=St.readBytes S8.out (by have:=Hz.out.l4;omega)
   rw [Hz.out.e5] at hcall
   refine hcall.mono ?_
   rintro e w9 ⟨yo,yc,rfl,ho,hS⟩
   have T:=Lib.hid hS
   obtain ⟨c1,c2,c3⟩:=T.out.cellsN 1 rfl
   have hcv:=conv_str ho.at yc
   clear hcall hS S8 ho
   go_wp2_with fail
   have S9:Hid (St w (w9.setCell ⟨bx,7,none⟩ (.string ⟨key.toArray⟩)) [thRd p g r5 b5,thObj bx (.cells #[.int .i64 (zid:Nat),.string ⟨fr.toArray⟩,.string ⟨to.toArray⟩,.int .i64 (owner:Nat),.int .i64 (epoch:Nat),.int .i64 (pend:Nat),.int .i64 (tt:Nat),.string ⟨key.toArray⟩,.int .i64 0] 125),thObj (w.heap.size+1) (.cells #[.int .i64 (ver:Nat),.int .i64 (nx:Nat),.slice zo L.length zc] 44),thRow w.heap.size 125 9 zo L.length zc (znR L),thObj w.heap.size (.cells #[.int .i64 0,.int .i64 0,.slice none 0 0] 44)]):=Lib.hid (((T.out.pull (A:=[_])).setObj 7 (.string ⟨key.toArray⟩)).pull (A:=[_]))
   clear T c1 c2 c3 hcv
   have hcall:=St.readNum S9.out (by have:=Hz.out.l5;omega)
   rw [Hz.out.e6] at hcall
   refine hcall.mono ?_
   rintro e w10 ⟨rfl,hS⟩
   have T:=Lib.hid hS
   obtain ⟨c1,c2,c3⟩:=T.out.cellsN 1 rfl
   clear hcall hS S9
   have SA:Hid (St w (w10.setCell ⟨bx,8,none⟩ (.int .i64 (nw:Nat))) [thRd p g r6 b6,thObj bx (.cells #[.int .i64 (zid:Nat),.string ⟨fr.toArray⟩,.string ⟨to.toArray⟩,.int .i64 (owner:Nat),.int .i64 (epoch:Nat),.int .i64 (pend:Nat),.int .i64 (tt:Nat),.string ⟨key.toArray⟩,.int .i64 (nw:Nat)] 125),thObj (w.heap.size+1) (.cells #[.int .i64 (ver:Nat),.int .i64 (nx:Nat),.slice zo L.length zc] 44),thRow w.heap.size 125 9 zo L.length zc (znR L),thObj w.heap.size (.cells #[.int .i64 0,.int .i64 0,.slice none 0 0] 44)]):=Lib.hid (((T.out.pull (A:=[_])).setObj 8 (.int .i64 (nw:Nat))).pull (A:=[_]))
   have hrow:(w10.setCell ⟨bx,8,none⟩ (.int .i64 (nw:Nat))).ownsRow w.heap.size 125 9 (.slice zo L.length zc) L.length (znR L):=SA.out.mem (t:=thRow w.heap.size 125 9 zo L.length zc (znR L)) (by simp)
   obtain ⟨m1,m2,m3⟩:=T.out.cellsN 2 rfl
   obtain ⟨z,hzz⟩:∃ z:Zn,z=⟨zid,txt fr,txt to,owner,epoch,pend,tt,txt key,nw⟩:=⟨_,rfl⟩
   have Hzz:=Lib.hid hzz
   clear hzz
   have hne:¬w.heap.size+1=bx:=by omega
   have hne2:¬bx=w.heap.size+1:=by omega
   have hLl:L.length≤2010:=by have:=HI.out.len;omega
   have hwz:=SA.out.b.size
   clear T
   go_wp2_with (at_builtin;go_must (refine wpList_append_foot _ rfl (.tmp 53) (.tmp 55) 42 rfl w.heap.size 125 i0 (.agg zz9) 9 96 Tryz.underlying42 hii hz0 hz1 hz2 rfl (by decide) zo L.length zc _ rfl (hrow.alloc _) (some ⟨w10.heap.size,0,none⟩) 1 1 (znV z) rfl (fun h=>by cases h) rfl ?news (znV_one z) (by unfold maxLen;omega) (by omega) (by simp [World.setCell] at hwz ⊢;omega) ?_))
   case news=>rw [Hzz.out];exact news_ad _ _ (by simp [World.setCell]) _ _
   intro co c' w11 hown hgrow hco
   have SB:Hid (St w w11 [thRow w.heap.size 125 9 co (L.length+1) c' (znR L++znV z),thObj w10.heap.size (.cells #[.int .i64 (zid:Nat),.string ⟨fr.toArray⟩,.string ⟨to.toArray⟩,.int .i64 (owner:Nat),.int .i64 (epoch:Nat),.int .i64 (pend:Nat),.int .i64 (tt:Nat),.string ⟨key.toArray⟩,.int .i64 (nw:Nat)] 125),thRd p g r6 b6,thObj bx (.cells #[.int .i64 (zid:Nat),.string ⟨fr.toArray⟩,.string ⟨to.toArray⟩,.int .i64 (owner:Nat),.int .i64 (epoch:Nat),.int .i64 (pend:Nat),.int .i64 (tt:Nat),.string ⟨key.toArray⟩,.int .i64 (nw:Nat)] 125),thObj (w.heap.size+1) (.cells #[.int .i64 (ver:Nat),.int .i64 (nx:Nat),.slice zo L.length zc] 44),thObj w.heap.size (.cells #[.int .i64 0,.int .i64 0,.slice none 0 0] 44)]):=by
    have s1:=SA.out.objN (.cells #[.int .i64 (zid:Nat),.string ⟨fr.toArray⟩,.string ⟨to.toArray⟩,.int .i64 (owner:Nat),.int .i64 (epoch:Nat),.int .i64 (pend:Nat),.int .i64 (tt:Nat),.string ⟨key.toArray⟩,.int .i64 (nw:Nat)] 125) w10.heap.size (by simp [World.setCell])
    exact Lib.hid ((s1.pull (A:=[_,_,_,_])).appendedRow (m:=1) hown hgrow (fun a ha=>(hco a ha).imp id (fun h=>by simp [World.setCell] at h ⊢;omega)))
   obtain ⟨n1,n2,n3⟩:=SB.out.cellsN 4 rfl
   have SC:Hid (St w (w11.setCell ⟨w.heap.size+1,2,none⟩ (.slice co (L.length+1) c')) [thRd p g r6 b6,thObj (w.heap.size+1) (.cells #[.int .i64 (ver:Nat),.int .i64 (nx:Nat),.slice co ((L++[z]).length) c'] 44),thRow w.heap.size 125 9 co (L++[z]).length c' (znR (L++[z])),thObj w.heap.size (.cells #[.int .i64 0,.int .i64 0,.slice none 0 0] 44)]):=by
    have e1:(L++[z]).length=L.length+1:=by simp
    have e2:znR (L++[z])=znR L++znV z:=by rw [znR_append,znR_cons,znR_nil,List.append_nil]
    rw [e1,e2]
    have s1:=(SB.out.pull (A:=[_,_,_,_])).setObj 2 (.slice co (L.length+1) c')
    have s2:=(s1.pull (A:=[_,_])).drop
    have s3:=(s2.pull (A:=[_,_,_])).drop
    exact Lib.hid (s3.pull (A:=[_,_]))
   have HI2:=Lib.hid (HI.out.next Hz.out)
   clear hown hgrow hco SA SB hrow m1 m2 m3 hne hne2 c1 c2 c3
   go_wp2_with fail
   go_roundw
   case rel=>exact ⟨j,r6,b6,L++[z],co,c',by go_num,by omega,by rw [Hzz.out];exact HI2,SC⟩
   case measure=>simp [intOf]
  ·have HD:=Lib.hid (HI.out.done (by
    by_cases h:0<j
    ·exact .inr (by cases b with | true=>rfl | false=>exact absurd ⟨h,rfl⟩ hgo)
    ·exact .inl (by omega)))
   have hrl:r.length≤18000:=by have:=HI.out.left;omega
   have hLl:L.length≤2010:=by have:=HI.out.len;omega
   have Hsz:=Lib.hid HI.out.sz
   by_cases hj0:0<j
   case' pos =>
    have hb:b=true:=by cases b with | true=>rfl | false=>exact absurd ⟨hj0,rfl⟩ hgo
    have hji:(0:Int)<j:=by omega
    have hgd:=good_any p g r b wr S3.out.head
    rw [hb] at hgd
    go_wp2_with fail
    refine hgd.mono ?_
    rintro e w4 ⟨rfl,rfl⟩
    clear hgd hb
    go_wp2_with fail
   case' neg =>
    go_wp2_with fail
   all_goals
    clear hgo hj0
    have hwh:=whole_any p g r b wr S3.out.head (by omega)
    have HW:Hid (wholeS (decM l).2=(!b&&r.isEmpty)):=by rw [HD.out];exact Lib.hid rfl
    obtain ⟨q,hq⟩:∃ q,q=(!b&&r.isEmpty):=⟨_,rfl⟩
    rw [←hq] at hwh HW
    clear hq
    obtain ⟨u1,u2,u3⟩:=S3.out.cellsN 3 rfl
    obtain ⟨x1,x2,x3⟩:=S3.out.cellsN 1 rfl
    have wr_b:=S3.out.b
    cases q with
    | false =>
     have HG:Hid (goodM l=false):=by unfold goodM;rw [HW.out];exact Lib.hid rfl
     refine hwh.mono ?_
     rintro e w4 ⟨rfl,rfl⟩
     clear hwh
     go_wp2_with fail
     exact bodyPost_ret (v:=.tuple #[.agg #[.int .i64 0,.int .i64 0,.slice none 0 0],.int .i64 3]) (by simp only [results,Tryz.results84];go_simp) rfl ⟨bg,by rw [if_neg (by rw [HG.out];simp)]⟩
    | true =>
     have hrow:wr.ownsRow w.heap.size 125 9 (.slice zo L.length zc) L.length (znR L):=S3.out.mem (t:=thRow w.heap.size 125 9 zo L.length zc (znR L)) (by simp)
     have Hzs:Hid (ZsAt wr zo L):=row_zs hrow
     have hmay:=pmay_any zo zc ⟨ver,nx,L⟩ wr (by simp only;omega) Hzs.out (fun z hz=>(Hsz.out z hz).2.2.2)
     have HM:Hid ((decM l).1=⟨ver,nx,L⟩):=by rw [HD.out,Hver.out,Hnx.out];exact Lib.hid rfl
     obtain ⟨qm,hqm⟩:∃ qm,qm=mayM ⟨ver,nx,L⟩:=⟨_,rfl⟩
     have HG:Hid (goodM l=qm):=by unfold goodM;rw [HW.out,HM.out,hqm];exact Lib.hid (by simp)
     have hcan:encM ⟨ver,nx,L⟩=l:=by rw [←HM.out];exact dec_canon HW.out
     have hpe:=fun (w5:World) (hb:Below wr.heap.size wr w5)=>pencM_any zo zc ⟨ver,nx,L⟩ w5 (Hzs.out.grow hb) ⟨by simp only;omega,fun z hz=>by have:=Hsz.out z hz;omega⟩
     rw [hcan] at hpe
     rw [←hqm] at hmay
     dsimp only at hmay hpe
     have Hpe:=Lib.hid hpe
     have Hmay:=Lib.hid hmay
     clear hrow hqm hcan hpe hmay
     go_wp2_with fail
     refine hwh.mono ?_
     rintro e w4 ⟨rfl,rfl⟩
     clear hwh
     go_wp2_with fail
     refine Hmay.out.mono ?_
     rintro e w5 ⟨rfl,hb5⟩
     have S4:=Lib.hid (S3.out.grow hb5)
     have Hb5:=Lib.hid hb5
     have w5_b:=S4.out.b
     obtain ⟨u1,u2,u3⟩:=S4.out.cellsN 3 rfl
     obtain ⟨x1,x2,x3⟩:=S4.out.cellsN 1 rfl
     clear hb5 S3
     cases qm with
     | false =>
      go_wp2_with fail
      exact bodyPost_ret (v:=.tuple #[.agg #[.int .i64 0,.int .i64 0,.slice none 0 0],.int .i64 3]) (by simp only [results,Tryz.results84];go_simp) rfl ⟨bg,by rw [if_neg (by rw [HG.out];simp)]⟩
     | true =>
      go_wp2_with fail
      refine (Hpe.out w5 Hb5.out).mono ?_
      rintro e w6 ⟨co,cc,rfl,ho,hb6⟩
      have S5:=Lib.hid (S4.out.grow hb6)
      have Ho:=Lib.hid ho
      have w6_b:=S5.out.b
      obtain ⟨u1,u2,u3⟩:=S5.out.cellsN 3 rfl
      obtain ⟨x1,x2,x3⟩:=S5.out.cellsN 1 rfl
      have heq:=equal_any co ao cc cap l l w6 Ho.out.at (Ha.out.below S5.out.b)
      rw [beq_self_eq_true] at heq
      clear hb6 ho S4
      go_wp2_with fail
      refine heq.mono ?_
      rintro e w7 ⟨rfl,rfl⟩
      clear heq
      go_wp2_with fail
      have S6:=Lib.hid ((((S5.out.pull (A:=[_,_,_])).setObj 0 (.int .i64 (ver:Nat))).setObj 1 (.int .i64 (nx:Nat))).setObj 2 (.slice zo L.length zc))
      refine bodyPost_ret (v:=.tuple #[.agg #[.int .i64 (ver:Nat),.int .i64 (nx:Nat),.slice zo L.length zc],.int .i64 0]) (by simp only [results,Tryz.results84];go_simp) rfl ⟨bg,?_⟩
      rw [if_pos HG.out,HM.out]
      have hrow:=S6.out.mem (t:=thRow w.heap.size 125 9 zo L.length zc (znR L)) (by simp)
      exact ⟨zo,zc,rfl,row_zs hrow,row_none hrow⟩
end Go.Proofs.YtogamdaomdoapaaGreat.O
namespace Go.Proofs.YtogamdaomdoapaaGreat
open Go.RowKit
set_option maxRecDepth 20000
def thRO (W:World) (p g:Nat) (rest:List UInt8) (bad:Bool):Th where
 T w:=(bad=true→rest=[])∧∃ ao cap,w.heap[p]?=some (.cells #[.slice ao rest.length cap,.bool bad] 118 (0,0))∧rest.length≤cap∧cap≤9223372036854775807∧(ao=none→rest.length=0∧cap=0)∧g≠p∧(0<rest.length→∃ off,ao=some ⟨g,off,none⟩∧g<W.heap.size∧BRow W g off rest)
 F x:=x=p
 stay h k hS:=by
  obtain ⟨h0,ao,cap,h1,r⟩:=h
  exact ⟨h0,ao,cap,(k.block p (lt_of_block h1) (hS p rfl)).trans h1,r⟩
 lt h e:=by
  obtain ⟨h0,ao,cap,h1,r⟩:=h
  exact e▸lt_of_block h1
theorem RO.rr {W w:World} {p g:Nat} {rest:List UInt8} {bad:Bool} (h:(thRO W p g rest bad).T w) (b:Below W.heap.size W w):RRAt w p g rest bad:=by
 obtain ⟨h0,ao,cap,h1,h2,h3,h4,h5,h6⟩:=h
 refine ⟨h0,ao,cap,h1,h2,h3,h4,h5,fun hl=>?_⟩
 obtain ⟨off,e,hg,hr⟩:=h6 hl
 exact ⟨off,e,Nat.lt_of_lt_of_le hg b.size,hr.below hg b⟩
theorem RO.of {W w:World} {p g:Nat} {rest:List UInt8} {bad:Bool} (h:RRAt w p g rest bad) (b:Below W.heap.size W w) (hg:0<rest.length→g<W.heap.size):(thRO W p g rest bad).T w:=by
 obtain ⟨h0,ao,cap,h1,h2,h3,h4,h5,h6⟩:=h
 refine ⟨h0,ao,cap,h1,h2,h3,h4,h5,fun hl=>?_⟩
 obtain ⟨off,e,-,hr⟩:=h6 hl
 exact ⟨off,e,hg hl,fun i hi=>(b.cell (p:=⟨g,_,none⟩) (hg hl)).symm.trans (hr i hi)⟩
end Go.Proofs.YtogamdaomdoapaaGreat
namespace Go.Proofs.YtogamdaomdoapaaGreat.O
open Go.RowKit
set_option maxRecDepth 20000
theorem rmay_zero (ao:Option Addr) (zc:Nat) (ver nx:Int) (w:World) :
 Calls Tryz.prog 34 #[.agg #[.int .i64 ver,.int .i64 nx,.slice ao ([]:List Zn).length zc]] w fun e w'=>e=.returned (.bool false)∧Below w.heap.size w w':=by
 rw [List.length_nil]
 rcases Bool.eq_false_or_eq_true (decide (ver<1)) with t1 | t1
 ·(go_enter Tryz.func34,Tryz.ntmps34;(go_wp2_with fail);go_ret;exact ⟨rfl,bg⟩)
 rcases Bool.eq_false_or_eq_true (decide (1099511627776<ver)) with t2 | t2
 ·(go_enter Tryz.func34,Tryz.ntmps34;(go_wp2_with fail);go_ret;exact ⟨rfl,bg⟩)
 rcases Bool.eq_false_or_eq_true (decide (nx<1)) with t3 | t3
 ·(go_enter Tryz.func34,Tryz.ntmps34;(go_wp2_with fail);go_ret;exact ⟨rfl,bg⟩)
 rcases Bool.eq_false_or_eq_true (decide (1099511627776<nx)) with t4 | t4
 ·(go_enter Tryz.func34,Tryz.ntmps34;(go_wp2_with fail);go_ret;exact ⟨rfl,bg⟩)
 go_enter Tryz.func34,Tryz.ntmps34
 go_wp2_with fail
 (refine wp_name fun wa hwa=>?_;have wa_s0:=sg w.heap.size hwa;obtain wa_c0:=kk1 hwa w.heap.size 2 (.slice ao 0 zc);have wa_b:Below w.heap.size w wa:=(by rw [hwa];exact bg);clear hwa)
 go_loopw [3,4] (fun s3 s4 wr=>s3=.slice none 0 0∧s4=.int .i64 0∧wr=wa) (fun _ _ _=>0)
 case atStart=>exact ⟨rfl,rfl,rfl⟩
 case round =>
  obtain ⟨rfl,rfl,rfl⟩:=hrel
  go_wp2_with fail
  refine (ref_all_none none 0 wr).mono ?_
  rintro e w2 ⟨rfl,hb⟩
  have hb2:=wa_b.trans (hb.mono wa_b.size)
  go_wp2_with fail
  go_ret
  exact ⟨rfl,hb2⟩
theorem rmay_all (ao:Option Addr) (zc:Nat) (m:Mp) (w:World) (hm:m.zs.length≤1000) (h:ZsAt w ao m.zs) :
 Calls Tryz.prog 34 #[.agg #[.int .i64 m.ver,.int .i64 m.next,.slice ao m.zs.length zc]] w fun e w'=>e=.returned (.bool (mayM m))∧Below w.heap.size w w':=by
 by_cases h1:0<m.zs.length
 ·obtain ⟨g,o,rfl,hz⟩:=h h1
  exact may_any hz hm
 ·have h0:m.zs=[]:=List.length_eq_zero_iff.1 (by omega)
  have hf:mayM m=false:=by
   unfold mayM
   rw [h0]
   have:rAll (List.map spz [])=false:=rfl
   rw [this,Bool.and_false,Bool.and_false]
  rw [hf,h0]
  exact rmay_zero ao zc m.ver m.next w
end Go.Proofs.YtogamdaomdoapaaGreat.O