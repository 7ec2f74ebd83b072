/- Texts put together: WSa, WAj, FrDec. -/
import Derived.Test.YtogamdaomdoapaaGreatSa06
import Derived.Test.YtogamdaomdoapaaGreatSa19
import Derived.Test.YtogamdaomdoapaaGreatSa20
import Derived.Test.YtogamdaomdoapaaGreatSa30
import Derived.Test.YtogamdaomdoapaaGreatSa31
namespace Go.Proofs.YtogamdaomdoapaaGreat.O
set_option maxRecDepth 20000
open Go.RowKit
set_option maxHeartbeats 4000000 in
theorem rsame_any (a1 a2:Option Addr) (k1 k2:Nat) (x y:Mp) (w:World) (h1:ZsAt w a1 x.zs) (h2:ZsAt w a2 y.zs) (hm:x.zs.length≤100000) :
 Calls Tryz.prog 67 #[.agg #[.int .i64 x.ver,.int .i64 x.next,.slice a1 x.zs.length k1],.agg #[.int .i64 y.ver,.int .i64 y.next,.slice a2 y.zs.length k2]] w fun e w'=>e=.returned (.bool (sameM x y))∧Below w.heap.size w w':=by
 obtain ⟨q,hq⟩:∃ q,q=sameM x y:=⟨_,rfl⟩
 rw [←hq]
 have Hq:=Lib.hid hq
 clear hq
 by_cases t1:x.ver=y.ver
 case neg =>
  have t1':(x.ver != y.ver)=true:=by rw [bne_iff_ne];exact t1
  obtain rfl:q=false:=by rw [Hq.out];unfold sameM;rw [decide_eq_false_iff_not];rintro ⟨h,-⟩;exact t1 h
  go_enter Tryz.func67,Tryz.ntmps67
  go_wp2_with fail
  go_ret
  exact ⟨rfl,bg⟩
 have t1':(x.ver != y.ver)=false:=by rw [t1];simp
 by_cases t2:x.next=y.next
 case neg =>
  have t2':(x.next != y.next)=true:=by rw [bne_iff_ne];exact t2
  obtain rfl:q=false:=by rw [Hq.out];unfold sameM;rw [decide_eq_false_iff_not];rintro ⟨-,h,-⟩;exact t2 h
  go_enter Tryz.func67,Tryz.ntmps67
  go_wp2_with fail
  go_ret
  exact ⟨rfl,bg⟩
 have t2':(x.next != y.next)=false:=by rw [t2];simp
 by_cases t3:x.zs.length=y.zs.length
 case neg =>
  have t3':((x.zs.length:Int) != y.zs.length)=true:=by rw [bne_iff_ne];omega
  obtain rfl:q=false:=by rw [Hq.out];unfold sameM;rw [decide_eq_false_iff_not];rintro ⟨-,-,h⟩;exact t3 (by rw [h])
  go_enter Tryz.func67,Tryz.ntmps67
  go_wp2_with fail
  go_ret
  exact ⟨rfl,bg⟩
 have Hq:Hid (q=decide (x.zs=y.zs)):=Lib.hid (by rw [Hq.out];unfold sameM;congr 1;simp [t1,t2])
 obtain ⟨v1,n1,l⟩:=x
 obtain ⟨v2,n2,m⟩:=y
 dsimp only at t1 t2 t3 t1' t2' h1 h2 hm Hq ⊢
 subst t1 t2
 have H1:=Lib.hid h1
 have H2:=Lib.hid h2
 rw [←t3]
 obtain ⟨n,hn⟩:∃ n,n=l.length:=⟨_,rfl⟩
 rw [←hn] at hm t3 ⊢
 have Hn:=Lib.hid hn
 have Hm:=Lib.hid t3
 clear h1 h2 hn t3
 have e1:((n:Int) != n)=false:=by simp
 go_enter Tryz.func67,Tryz.ntmps67
 go_wp2_with fail
 (refine wp_name fun wa hwa=>?_;have wa_s0:=sg w.heap.size hwa;have wa_s1:=sg (w.heap.size+1) hwa;obtain ⟨wa_c0,wa_c1⟩:=kk2 hwa w.heap.size 2 (.slice a1 n k1) (w.heap.size+1) 2 (.slice a2 n k2);have wa_b:Below w.heap.size w wa:=(by rw [hwa];exact bg);clear hwa)
 have wa_le:=wa_b.size
 go_loopw [5] (fun s wr=>∃ i:Nat,s=.int .i64 i∧i≤n∧Hid (∀ j (hj:j<l.length) (hj':j<m.length),j<i→l[j]=m[j])∧Hid (Below wa.heap.size wa wr)) (fun s _=>n - (intOf s).toNat)
 case atStart=>exact ⟨0,rfl,by omega,Lib.hid (fun j _ _ h=>by omega),Lib.hid (Below.refl _ _)⟩
 case round =>
  obtain ⟨i,rfl,hi,Hs,Hb⟩:=hrel
  have wr_b:=wa_b.trans (Hb.out.mono wa_le)
  have hsr:=Hb.out.size
  obtain ⟨xc,xf⟩:=bcell Hb.out
  have r0:=(xc _ _ wa_s0).trans wa_c0
  have r1:=(xc _ _ wa_s1).trans wa_c1
  have rs2:w.heap.size<wr.heap.size:=by omega
  have rs3:w.heap.size+1<wr.heap.size:=by omega
  clear xc xf
  by_cases hlt:i<n
  ·have hl1:i<l.length:=by have:=Hn.out;omega
   have hl2:i<m.length:=by have:=Hm.out;omega
   obtain ⟨g1,o1,rfl,hz1⟩:=H1.out (by omega)
   obtain ⟨g2,o2,rfl,hz2⟩:=H2.out (by omega)
   have u1:g1<wr.heap.size:=Nat.lt_of_lt_of_le hz1.lt wr_b.size
   have u2:g2<wr.heap.size:=Nat.lt_of_lt_of_le hz2.lt wr_b.size
   obtain ⟨z,hz⟩:∃ z,z=l[i]:=⟨_,rfl⟩
   obtain ⟨y,hy⟩:∃ y,y=m[i]:=⟨_,rfl⟩
   obtain ⟨d0,d1,d2,d3,d4,d5,d6,d7,d8⟩:=(hz1.grow wr_b).nine i hl1 z hz
   obtain ⟨f0,f1,f2,f3,f4,f5,f6,f7,f8⟩:=(hz2.grow wr_b).nine i hl2 y hy
   obtain ⟨r,hr⟩:∃ r,r=decide (z=y):=⟨_,rfl⟩
   have heq:=fun w=>eql_zn z y w r (by rw [eqZ_iff,hr])
   have Hr:Hid (r=true→l[i]=m[i]):=Lib.hid fun h=>by rw [←hz,←hy];rw [h] at hr;exact of_decide_eq_true hr.symm
   have Hf:Hid (r=false→q=false):=Lib.hid fun h=>by
    rw [Hq.out,decide_eq_false_iff_not]
    rintro rfl
    rw [h,hz,hy] at hr
    exact absurd rfl (of_decide_eq_false hr.symm)
   obtain ⟨wo,rfl⟩:∃ wo:World,wo=wr:=⟨_,rfl⟩
   clear hz hy hz1 hz2 hr
   cases r with
   | true =>
    go_wp2_with fail
    (refine wp_region_gr (by kernel_rfl) (by kernel_rfl) ?_;(repeat (go_big_quiet_step (fail)));refine wpQuiet_nil ?_;intro _ hw';obtain ⟨g0,hw''⟩:=hw';subst hw'')
    go_wp2_with fail
    go_roundw
    case rel=>exact ⟨i+1,by go_num,by omega,Lib.hid (fun j hj hj' hji=>by
     by_cases e:j=i
     ·subst e;exact Hr.out trivial
     ·exact Hs.out j hj hj' (by omega)),Lib.hid (Hb.out.trans ((gr_below wo g0).mono (by omega)))⟩
    case measure=>simp [intOf];omega
   | false =>
    have hqf:=Hf.out rfl
    subst hqf
    go_wp2_with fail
    (refine wp_region_gr (by kernel_rfl) (by kernel_rfl) ?_;(repeat (go_big_quiet_step (fail)));refine wpQuiet_nil ?_;intro _ hw';obtain ⟨g0,hw''⟩:=hw';subst hw'')
    go_wp2_with fail
    go_ret
    exact ⟨rfl,wr_b.trans ((gr_below wo g0).mono wr_b.size)⟩
  ·have hqt:q=true:=by
    rw [Hq.out,decide_eq_true_eq]
    refine List.ext_getElem (by rw [←Hn.out,Hm.out]) fun j hj hj'=>Hs.out j hj hj' ?_
    have:=Hn.out
    omega
   subst hqt
   go_wp2_with fail
   go_ret
   exact ⟨rfl,wr_b⟩
end Go.Proofs.YtogamdaomdoapaaGreat.O
namespace Go.Proofs.YtogamdaomdoapaaGreat
set_option maxRecDepth 20000
open Go.RowKit
def sameWd (a b:Wd):Bool:=(a.kind==b.kind)&&(a.zone==b.zone)&&(a.epoch==b.epoch)&&(a.index==b.index)&&(a.size==b.size)&&(a.off==b.off)&&(a.host==b.host)&&(a.err==b.err)&&decide (a.sf.toList=b.sf.toList∧a.st.toList=b.st.toList)&&eqR a.op b.op&&eqRp a.rep b.rep&&sameM a.mp b.mp&&eqCh a.ch b.ch&&decide (a.data=b.data)
theorem sameWd_eq (a b:Wd):sameWd a b=(decide (a.kind=b.kind)&&eqPl a.pl b.pl&&sameM a.mp b.mp&&decide (a.data=b.data)):=by
 unfold sameWd eqPl Wd.pl
 rw [Bool.eq_iff_iff]
 simp only [Bool.and_eq_true,decide_eq_true_eq,beq_iff_eq]
 grind
theorem eql_span (f t f' t':ByteArray) (w:World) (r:Bool) (hr:decide (f.toList=f'.toList∧t.toList=t'.toList)=r):(Op.equalIn 10000 37 (.agg #[.string f,.string t]) (.agg #[.string f',.string t'])).run Tryz.prog w=.ok r w:=by
 subst hr
 go_simp
 by_cases h1:f.toList=f'.toList
 ·by_cases h2:t.toList=t'.toList
  ·simp [h1,h2]
  ·simp [h1,h2]
 ·simp [h1]
set_option maxHeartbeats 8000000 in
theorem sameW_any {a b:Wd} {ms ds ms2 ds2:Value} {V V2:Array Value} (hV:V=wdV a ms ds) (hV2:V2=wdV b ms2 ds2) (a1 a2 d1 d2:Option Addr) (k1 k2 c1 c2:Nat) (hms:ms=.slice a1 a.mp.zs.length k1) (hms2:ms2=.slice a2 b.mp.zs.length k2) (hds:ds=.slice d1 a.data.length c1) (hds2:ds2=.slice d2 b.data.length c2) (w:World)
 (hz1:O.ZsAt w a1 a.mp.zs) (hz2:O.ZsAt w a2 b.mp.zs) (hb1:BAt w d1 a.data) (hb2:BAt w d2 b.data) (hm:a.mp.zs.length≤100000) :
 Calls Tryz.prog 39 #[.agg V,.agg V2] w fun e w'=>e=.returned (.bool (sameWd a b))∧Below w.heap.size w w':=by
 have HV:=Lib.hid hV
 have HV2:=Lib.hid hV2
 have Hz1:=Lib.hid hz1
 have Hz2:=Lib.hid hz2
 have Hb1:=Lib.hid hb1
 have Hb2:=Lib.hid hb2
 have Hms:=Lib.hid hms
 have Hms2:=Lib.hid hms2
 have Hds:=Lib.hid hds
 have Hds2:=Lib.hid hds2
 obtain ⟨r,hr⟩:∃ r,r=sameWd a b:=⟨_,rfl⟩
 rw [←hr]
 unfold sameWd at hr
 obtain ⟨q0,hq0⟩:∃ q,(a.kind==b.kind)=q:=⟨_,rfl⟩
 obtain ⟨q1,hq1⟩:∃ q,(a.zone==b.zone)=q:=⟨_,rfl⟩
 obtain ⟨q2,hq2⟩:∃ q,(a.epoch==b.epoch)=q:=⟨_,rfl⟩
 obtain ⟨q3,hq3⟩:∃ q,(a.index==b.index)=q:=⟨_,rfl⟩
 obtain ⟨q4,hq4⟩:∃ q,(a.size==b.size)=q:=⟨_,rfl⟩
 obtain ⟨q5,hq5⟩:∃ q,(a.off==b.off)=q:=⟨_,rfl⟩
 obtain ⟨q6,hq6⟩:∃ q,(a.host==b.host)=q:=⟨_,rfl⟩
 obtain ⟨q7,hq7⟩:∃ q,(a.err==b.err)=q:=⟨_,rfl⟩
 obtain ⟨q8,hq8⟩:∃ q,decide (a.sf.toList=b.sf.toList∧a.st.toList=b.st.toList)=q:=⟨_,rfl⟩
 obtain ⟨q9,hq9⟩:∃ q,eqR a.op b.op=q:=⟨_,rfl⟩
 obtain ⟨q10,hq10⟩:∃ q,eqRp a.rep b.rep=q:=⟨_,rfl⟩
 obtain ⟨q11,hq11⟩:∃ q,sameM a.mp b.mp=q:=⟨_,rfl⟩
 obtain ⟨q12,hq12⟩:∃ q,eqCh a.ch b.ch=q:=⟨_,rfl⟩
 obtain ⟨q13,hq13⟩:∃ q,decide (a.data=b.data)=q:=⟨_,rfl⟩
 rw [hq0,hq1,hq2,hq3,hq4,hq5,hq6,hq7,hq8,hq9,hq10,hq11,hq12,hq13] at hr
 have Hr:=Lib.hid hr
 have Heq8:=Lib.hid (fun w=>eql_span a.sf a.st b.sf b.st w q8 hq8)
 have Heq9:=Lib.hid (fun w=>eql_api.Op a.op b.op w q9 hq9)
 have Heq10:=Lib.hid (fun w=>eql_rep a.rep b.rep w q10 hq10)
 have Heq12:=Lib.hid (fun w=>eql_ch a.ch b.ch w q12 (by rw [←hq12];rfl))
 have Heq13:Hid ((a.data==b.data)=q13):=Lib.hid (by rw [←hq13,Bool.eq_iff_iff,beq_iff_eq,decide_eq_true_eq])
 have Hq11:=Lib.hid hq11
 have Hq0:=Lib.hid hq0
 have Hq1:=Lib.hid hq1
 have Hq2:=Lib.hid hq2
 have Hq3:=Lib.hid hq3
 have Hq4:=Lib.hid hq4
 have Hq5:=Lib.hid hq5
 have Hq6:=Lib.hid hq6
 have Hq7:=Lib.hid hq7
 clear hr hV hV2 hz1 hz2 hb1 hb2 hms hms2 hds hds2 hq0 hq1 hq2 hq3 hq4 hq5 hq6 hq7 hq8 hq9 hq10 hq11 hq12 hq13
 go_enter Tryz.func39,Tryz.ntmps39
 refine wp_hold fun C HC=>?_
 go_wp2_with fail
 refine wp_name fun wa hwa=>?_
 obtain ⟨B,hB⟩:∃ B,B=w.heap.size:=⟨_,rfl⟩
 have S:Hid (St w wa [thObj (B+1) (.cells V2 49 (0,0)),thObj B (.cells V 49 (0,0))]):=by
  rw [hwa]
  exact Lib.hid (((St.start w).objN _ B hB).objN _ (B+1) (by rw [hB];simp))
 rw [←hB]
 clear hwa hB
 have Wa:Hid (WBox wa B a ms ds):=Lib.hid (wboxD (by rw [←HV.out];exact (S.out.pull (A:=[_])).head))
 have Wb:Hid (WBox wa (B+1) b ms2 ds2):=Lib.hid (wboxD (by rw [←HV2.out];exact S.out.head))
 (have hC:=HC.out);clear HC;subst hC
 refine wp_seq ?_
 refine wp_region_lit ?_
 refine list_hold 6 fun L HL=>?_
 simp only [List.append_eq,List.take_succ_cons,List.take_zero,List.cons_append,List.nil_append]
 have x0:=Wa.out.c0
 have y0:=Wb.out.c0
 have hq:=Hq0.out
 go_wp2_with fail
 clear x0 y0 hq
 (have hL:=HL.out);clear HL;subst hL
 simp only [List.append_eq,List.cons_append,List.nil_append,List.drop_succ_cons,List.drop_zero]
 obtain rfl | rfl:=Bool.eq_false_or_eq_true q0 |>.symm
 ·((go_wp2_with fail);go_ret;exact ⟨by rw [Hr.out];rfl,S.out.b⟩)
 refine list_hold 7 fun L HL=>?_
 simp only [List.take_succ_cons,List.take_zero,List.cons_append,List.nil_append]
 have x1:=Wa.out.c1
 have y1:=Wb.out.c1
 have hq:=Hq1.out
 go_wp2_with fail
 clear x1 y1 hq
 ((have hL:=HL.out);clear HL;subst hL;simp only [List.drop_succ_cons,List.drop_zero])
 obtain rfl | rfl:=Bool.eq_false_or_eq_true q1 |>.symm
 ·((go_wp2_with fail);go_ret;exact ⟨by rw [Hr.out];rfl,S.out.b⟩)
 refine list_hold 7 fun L HL=>?_
 simp only [List.take_succ_cons,List.take_zero,List.cons_append,List.nil_append]
 have x2:=Wa.out.c2
 have y2:=Wb.out.c2
 have hq:=Hq2.out
 go_wp2_with fail
 clear x2 y2 hq
 ((have hL:=HL.out);clear HL;subst hL;simp only [List.drop_succ_cons,List.drop_zero])
 obtain rfl | rfl:=Bool.eq_false_or_eq_true q2 |>.symm
 ·((go_wp2_with fail);go_ret;exact ⟨by rw [Hr.out];rfl,S.out.b⟩)
 refine list_hold 7 fun L HL=>?_
 simp only [List.take_succ_cons,List.take_zero,List.cons_append,List.nil_append]
 have x3:=Wa.out.c3
 have y3:=Wb.out.c3
 have hq:=Hq3.out
 go_wp2_with fail
 clear x3 y3 hq
 ((have hL:=HL.out);clear HL;subst hL;simp only [List.drop_succ_cons,List.drop_zero])
 obtain rfl | rfl:=Bool.eq_false_or_eq_true q3 |>.symm
 ·((go_wp2_with fail);go_ret;exact ⟨by rw [Hr.out];rfl,S.out.b⟩)
 refine list_hold 7 fun L HL=>?_
 simp only [List.take_succ_cons,List.take_zero,List.cons_append,List.nil_append]
 have x4:=Wa.out.c4
 have y4:=Wb.out.c4
 have hq:=Hq4.out
 go_wp2_with fail
 clear x4 y4 hq
 ((have hL:=HL.out);clear HL;subst hL;simp only [List.drop_succ_cons,List.drop_zero])
 obtain rfl | rfl:=Bool.eq_false_or_eq_true q4 |>.symm
 ·((go_wp2_with fail);go_ret;exact ⟨by rw [Hr.out];rfl,S.out.b⟩)
 refine list_hold 7 fun L HL=>?_
 simp only [List.take_succ_cons,List.take_zero,List.cons_append,List.nil_append]
 have x5:=Wa.out.c5
 have y5:=Wb.out.c5
 have hq:=Hq5.out
 go_wp2_with fail
 clear x5 y5 hq
 ((have hL:=HL.out);clear HL;subst hL;simp only [List.drop_succ_cons,List.drop_zero])
 obtain rfl | rfl:=Bool.eq_false_or_eq_true q5 |>.symm
 ·((go_wp2_with fail);go_ret;exact ⟨by rw [Hr.out];rfl,S.out.b⟩)
 refine list_hold 7 fun L HL=>?_
 simp only [List.take_succ_cons,List.take_zero,List.cons_append,List.nil_append]
 have x6:=Wa.out.c6
 have y6:=Wb.out.c6
 have hq:=Hq6.out
 go_wp2_with fail
 clear x6 y6 hq
 ((have hL:=HL.out);clear HL;subst hL;simp only [List.drop_succ_cons,List.drop_zero])
 obtain rfl | rfl:=Bool.eq_false_or_eq_true q6 |>.symm
 ·((go_wp2_with fail);go_ret;exact ⟨by rw [Hr.out];rfl,S.out.b⟩)
 refine list_hold 7 fun L HL=>?_
 simp only [List.take_succ_cons,List.take_zero,List.cons_append,List.nil_append]
 have x7:=Wa.out.c7
 have y7:=Wb.out.c7
 have hq:=Hq7.out
 go_wp2_with fail
 clear x7 y7 hq
 ((have hL:=HL.out);clear HL;subst hL;simp only [List.drop_succ_cons,List.drop_zero])
 obtain rfl | rfl:=Bool.eq_false_or_eq_true q7 |>.symm
 ·((go_wp2_with fail);go_ret;exact ⟨by rw [Hr.out];rfl,S.out.b⟩)
 refine list_hold 7 fun L HL=>?_
 simp only [List.take_succ_cons,List.take_zero,List.cons_append,List.nil_append]
 have x8:=Wa.out.c8
 have y8:=Wb.out.c8
 have x9:=Wa.out.c9
 have y9:=Wb.out.c9
 have hq:=Heq8.out
 go_wp2_with fail
 clear x8 y8 x9 y9 hq
 ((have hL:=HL.out);clear HL;subst hL;simp only [List.drop_succ_cons,List.drop_zero])
 obtain rfl | rfl:=Bool.eq_false_or_eq_true q8 |>.symm
 ·((go_wp2_with fail);go_ret;exact ⟨by rw [Hr.out];rfl,S.out.b⟩)
 refine list_hold 7 fun L HL=>?_
 simp only [List.take_succ_cons,List.take_zero,List.cons_append,List.nil_append]
 have x10:=Wa.out.c10
 have y10:=Wb.out.c10
 have x11:=Wa.out.c11
 have y11:=Wb.out.c11
 have x12:=Wa.out.c12
 have y12:=Wb.out.c12
 have x13:=Wa.out.c13
 have y13:=Wb.out.c13
 have x14:=Wa.out.c14
 have y14:=Wb.out.c14
 have x15:=Wa.out.c15
 have y15:=Wb.out.c15
 have x16:=Wa.out.c16
 have y16:=Wb.out.c16
 have x17:=Wa.out.c17
 have y17:=Wb.out.c17
 have x18:=Wa.out.c18
 have y18:=Wb.out.c18
 have x19:=Wa.out.c19
 have y19:=Wb.out.c19
 have x20:=Wa.out.c20
 have y20:=Wb.out.c20
 have x21:=Wa.out.c21
 have y21:=Wb.out.c21
 have hq:=Heq9.out
 go_wp2_with fail
 clear x10 y10 x11 y11 x12 y12 x13 y13 x14 y14 x15 y15 x16 y16 x17 y17 x18 y18 x19 y19 x20 y20 x21 y21 hq
 ((have hL:=HL.out);clear HL;subst hL;simp only [List.drop_succ_cons,List.drop_zero])
 obtain rfl | rfl:=Bool.eq_false_or_eq_true q9 |>.symm
 ·((go_wp2_with fail);go_ret;exact ⟨by rw [Hr.out];rfl,S.out.b⟩)
 refine list_hold 7 fun L HL=>?_
 simp only [List.take_succ_cons,List.take_zero,List.cons_append,List.nil_append]
 have x22:=Wa.out.c22
 have y22:=Wb.out.c22
 have x23:=Wa.out.c23
 have y23:=Wb.out.c23
 have x24:=Wa.out.c24
 have y24:=Wb.out.c24
 have x25:=Wa.out.c25
 have y25:=Wb.out.c25
 have x26:=Wa.out.c26
 have y26:=Wb.out.c26
 have x27:=Wa.out.c27
 have y27:=Wb.out.c27
 have hq:=Heq10.out
 go_wp2_with fail
 clear x22 y22 x23 y23 x24 y24 x25 y25 x26 y26 x27 y27 hq
 ((have hL:=HL.out);clear HL;subst hL;simp only [List.drop_succ_cons,List.drop_zero])
 obtain rfl | rfl:=Bool.eq_false_or_eq_true q10 |>.symm
 ·((go_wp2_with fail);go_ret;exact ⟨by rw [Hr.out];rfl,S.out.b⟩)
 refine list_hold 7 fun L HL=>?_
 simp only [List.take_succ_cons,List.take_zero,List.cons_append,List.nil_append]
 have x28:=Wa.out.c28
 have y28:=Wb.out.c28
 have x29:=Wa.out.c29
 have y29:=Wb.out.c29
 have x30:=Wa.out.c30
 have y30:=Wb.out.c30
 rw [Hms.out] at x30
 rw [Hms2.out] at y30
 go_wp2_with fail
 refine (O.rsame_any a1 a2 k1 k2 a.mp b.mp wa (Hz1.out.grow S.out.b) (Hz2.out.grow S.out.b) hm).mono ?_
 rintro e w5 ⟨rfl,hb5⟩
 rw [Hq11.out]
 have S:=Lib.hid (S.out.grow hb5)
 clear hb5 x28 y28 x29 y29 x30 y30 Wa Wb
 have Wa:Hid (WBox w5 B a ms ds):=Lib.hid (wboxD (by rw [←HV.out];exact (S.out.pull (A:=[_])).head))
 have Wb:Hid (WBox w5 (B+1) b ms2 ds2):=Lib.hid (wboxD (by rw [←HV2.out];exact S.out.head))
 go_wp2_with fail
 ((have hL:=HL.out);clear HL;subst hL;simp only [List.drop_succ_cons,List.drop_zero])
 obtain rfl | rfl:=Bool.eq_false_or_eq_true q11 |>.symm
 ·((go_wp2_with fail);go_ret;exact ⟨by rw [Hr.out];rfl,S.out.b⟩)
 refine list_hold 7 fun L HL=>?_
 simp only [List.take_succ_cons,List.take_zero,List.cons_append,List.nil_append]
 have x31:=Wa.out.c31
 have y31:=Wb.out.c31
 have x32:=Wa.out.c32
 have y32:=Wb.out.c32
 have x33:=Wa.out.c33
 have y33:=Wb.out.c33
 have x34:=Wa.out.c34
 have y34:=Wb.out.c34
 have x35:=Wa.out.c35
 have y35:=Wb.out.c35
 have hq:=Heq12.out
 go_wp2_with fail
 clear x31 y31 x32 y32 x33 y33 x34 y34 x35 y35 hq
 ((have hL:=HL.out);clear HL;subst hL;simp only [List.drop_succ_cons,List.drop_zero])
 obtain rfl | rfl:=Bool.eq_false_or_eq_true q12 |>.symm
 ·((go_wp2_with fail);go_ret;exact ⟨by rw [Hr.out];rfl,S.out.b⟩)
 have x36:=Wa.out.c36
 have y36:=Wb.out.c36
 have u1:=conv_str (Hb1.out.below S.out.b) c1
 have u2:=conv_str (Hb2.out.below S.out.b) c2
 rw [Hds.out] at x36
 rw [Hds2.out] at y36
 go_wp2_with fail
 clear x36 y36 u1 u2
 go_ret
 exact ⟨by rw [Hr.out,←Heq13.out];rfl,S.out.b⟩
end Go.Proofs.YtogamdaomdoapaaGreat
namespace Go.Proofs.YtogamdaomdoapaaGreat
open Go.RowKit
theorem eqPl_iff {a b:Pl}:eqPl a b=true↔a=b:=by
 obtain ⟨a1,a2,a3,a4,a5,a6,a7,a8,a9,⟨b1,b2,b3,b4,b5,b6,b7,b8,b9,b10,b11,b12⟩,⟨c1,c2,⟨d1,d2,d3,d4⟩⟩,⟨e1,e2,e3,e4,e5⟩⟩:=a
 obtain ⟨f1,f2,f3,f4,f5,f6,f7,f8,f9,⟨g1,g2,g3,g4,g5,g6,g7,g8,g9,g10,g11,g12⟩,⟨h1,h2,⟨i1,i2,i3,i4⟩⟩,⟨j1,j2,j3,j4,j5⟩⟩:=b
 unfold eqPl eqR eqRp eqCh
 simp only [Bool.and_eq_true,decide_eq_true_eq,toList_eq,Pl.mk.injEq,Rq.mk.injEq,Rp.mk.injEq,It.mk.injEq,Ch.mk.injEq]
 constructor
 ·rintro ⟨⟨⟨⟨k1,k2,k3,k4,k5,k6,k7,k8,k9⟩,l⟩,m1,m2,m3,m4,m5,m6⟩,n⟩
  exact ⟨k1,k2,k3,k4,k5,k6,k7,k8,k9,l,⟨m1,m2,m3,m4,m5,m6⟩,n⟩
 ·rintro ⟨k1,k2,k3,k4,k5,k6,k7,k8,k9,l,⟨m1,m2,m3,m4,m5,m6⟩,n⟩
  exact ⟨⟨⟨⟨k1,k2,k3,k4,k5,k6,k7,k8,k9⟩,l⟩,m1,m2,m3,m4,m5,m6⟩,n⟩
theorem Wd.ext4 {a b:Wd} (h1:a.kind=b.kind) (h2:a.pl=b.pl) (h3:a.mp=b.mp) (h4:a.data=b.data):a=b:=by
 obtain ⟨a0,a1,a2,a3,a4,a5,a6,a7,a8,a9,a10,a11,a12,a13,a14⟩:=a
 obtain ⟨b0,b1,b2,b3,b4,b5,b6,b7,b8,b9,b10,b11,b12,b13,b14⟩:=b
 simp only [Wd.pl,Pl.mk.injEq] at h1 h2 h3 h4
 simp only [Wd.mk.injEq]
 exact ⟨h1,h2.1,h2.2.1,h2.2.2.1,h2.2.2.2.1,h2.2.2.2.2.1,h2.2.2.2.2.2.1,h2.2.2.2.2.2.2.1,h2.2.2.2.2.2.2.2.1,h2.2.2.2.2.2.2.2.2.1,h2.2.2.2.2.2.2.2.2.2.1,h2.2.2.2.2.2.2.2.2.2.2.1,h3,h2.2.2.2.2.2.2.2.2.2.2.2,h4⟩
theorem sameM_iff {a b:Mp}:sameM a b=true↔a=b:=by
 obtain ⟨a1,a2,a3⟩:=a
 obtain ⟨b1,b2,b3⟩:=b
 unfold sameM
 simp only [decide_eq_true_eq,Mp.mk.injEq]
structure Is (d:Wd):Prop where
 ok:okD d=true
 nums:numsW d=true
 pl:d.pl=namedW d
 mp:d.mp=mapW d
 data:d.data=dataW d
theorem is_of {d:Wd} (h:mayW d=true):Is d:=by
 rw [←docW_eq] at h
 unfold docW at h
 simp only [Bool.and_eq_true,decide_eq_true_eq,eqPl_iff,sameM_iff] at h
 exact ⟨h.1.1,h.1.2,h.2.1.1.symm,h.2.1.2.symm,h.2.2.symm⟩
theorem Is.kind {d:Wd} (h:Is d):d.kind=1∨d.kind=2∨d.kind=3∨d.kind=4∨d.kind=5∨d.kind=6∨d.kind=7∨d.kind=8∨d.kind=9∨d.kind=10:=by
 rcases (show (d.kind=1∨d.kind=2∨d.kind=3∨d.kind=4∨d.kind=5∨d.kind=6∨d.kind=7∨d.kind=8∨d.kind=9∨d.kind=10)∨(d.kind≠1∧d.kind≠2∧d.kind≠3∧d.kind≠4∧d.kind≠5∧d.kind≠6∧d.kind≠7∧d.kind≠8∧d.kind≠9∧d.kind≠10) by omega) with k | ⟨k1,k2,k3,k4,k5,k6,k7,k8,k9,k10⟩
 ·exact k
 ·have:=h.ok
  simp [okD,k1,k2,k3,k4,k5,k6,k7,k8,k9,k10] at this
theorem Is.err {d:Wd} (h:Is d):0≤d.err∧d.err≤19:=by
 by_cases k:d.kind=6
 ·have:=h.ok
  simp [okD,k] at this
  omega
 ·have e:d.err=(namedW d).err:=congrArg Pl.err h.pl
  have:(namedW d).err=0:=by unfold namedW;simp only [k,if_false];split<;>(try split)<;>(try split)<;>(try split)<;>(try split)<;>(try split)<;>rfl
  omega
theorem Is.bounds {d:Wd} (h:Is d):∀ v∈[d.kind,d.zone,d.epoch,d.index,d.size,d.off,d.host,d.err],0≤v∧v≤4611686018427387904:=by
 have h1:=h.kind
 have h2:=h.err
 have h3:=h.nums
 unfold numsW numW at h3
 simp only [Bool.and_eq_true,decide_eq_true_eq] at h3
 intro v hv
 simp only [List.mem_cons,List.not_mem_nil,or_false] at hv
 rcases hv with rfl | rfl | rfl | rfl | rfl | rfl | rfl | rfl<;>omega
theorem Is.opnums {d:Wd} (h:Is d) (k:d.kind=6):∀ v∈[d.op.kind,d.op.client,d.op.seq],0≤v∧v≤4611686018427387904:=by
 have:=h.ok
 simp [okD,k] at this
 intro v hv
 simp only [List.mem_cons,List.not_mem_nil,or_false] at hv
 rcases hv with rfl | rfl | rfl<;>omega
theorem eqR_iff {a b:Rq}:eqR a b=true↔a=b:=by
 obtain ⟨b1,b2,b3,b4,b5,b6,b7,b8,b9,b10,b11,b12⟩:=a
 obtain ⟨g1,g2,g3,g4,g5,g6,g7,g8,g9,g10,g11,g12⟩:=b
 unfold eqR
 simp only [decide_eq_true_eq,toList_eq,Rq.mk.injEq]
theorem Is.ophead {d:Wd} (h:Is d) (k:d.kind=6):d.op=headR d.op:=by
 have:=h.ok
 simp only [okD,k,Int.reduceEq,if_false,if_true,Bool.and_eq_true] at this
 exact eqR_iff.1 this.1.1.1
end Go.Proofs.YtogamdaomdoapaaGreat
namespace Go.Proofs.YtogamdaomdoapaaGreat.F
set_option maxRecDepth 20000
open Go.RowKit
def DecPost (w:World) (r:List UInt8 × Nat × Nat) (e:Ending) (w':World):Prop:=∃ ao cap,e=.returned (.tuple #[.slice ao r.1.length cap,.int .i64 (r.2.1:Nat),.int .i64 (r.2.2:Nat)])∧OwnB w' w.heap.size ao cap r.1∧Below w.heap.size w w'
theorem own_none (w:World) (base:Nat):OwnB w base none 0 []:=⟨rfl,.inl ⟨rfl,rfl⟩⟩
theorem bat_cut {w:World} {b off:Nat} {l:List UInt8} (hb:b<w.heap.size) (h:BRow w b off l) (m k:Nat):BAt w (some ⟨b,off+m,none⟩) ((l.drop m).take k):=fun hp=>⟨b,off+m,rfl,hb,fun i hi=>by
 simp only [List.length_take,List.length_drop] at hi
 rw [Nat.add_assoc,h (m+i) (by omega)]
 simp only [List.getElem_take,List.getElem_drop]⟩
theorem fromFour_b (ao:Option Addr) (cap:Nat) (l:List UInt8) (w:World) (h:BAt w ao l) (hl:4≤l.length) :
 Calls Tryz.prog 123 #[.slice ao l.length cap] w fun e w'=>e=.returned (.int .u32 (unFour l:Nat))∧Below w.heap.size w w' :=
 (qframe.fromFour_any ao cap l w h hl).mono fun _ _ ⟨he,_,hw⟩=>⟨he,hw▸below_drawn (Below.refl _ _)⟩
set_option maxHeartbeats 4000000 in
theorem decode_any (ao:Option Addr) (cap:Nat) (l:List UInt8) (w:World) (h:Sl w ao cap l) (hm:l.length≤140737488351232) :
 Calls Tryz.prog 79 #[.slice ao l.length cap] w (DecPost w (decB l)):=by
 by_cases h8:(l.length:Int)<8
 ·have hd:decB l=([],0,2):=by unfold decB;rw [if_pos (by omega)]
  rw [hd]
  clear hd h
  go_enter Tryz.func79,Tryz.ntmps79
  go_wp2_with fail
  go_ret3
  exact ⟨none,0,rfl,own_none _ _,bg⟩
 obtain ⟨b,off,rfl,hb,hr⟩:=h.at_ (by omega)
 have hlc:=h.le
 have hcm:=h.cm
 have hul:=unFour_lt l
 have HS:=Lib.hid h
 have Hr:=Lib.hid hr
 obtain ⟨u,hu⟩:∃ u,u=unFour l:=⟨_,rfl⟩
 rw [←hu] at hul
 have hfour:=qframe.fromFour_any (some ⟨b,off,none⟩) cap l w h.at_ (by omega)
 rw [←hu] at hfour
 have Hfour:=Lib.hid hfour
 have hw8:BAt w (some ⟨b,off,none⟩) (l.take 8):=by have:=bat_cut hb hr 0 8;simpa using this
 have Hw8:=Lib.hid hw8
 have hl8:(l.take 8).length=8:=by rw [List.length_take];omega
 have hdec:decB l=if l.take 8≠headB u then ([],0,4) else if 1048576<u then ([],0,5) else if l.length<12+u then ([],0,2) else if unFour (l.drop (8+u))≠sumOf (l.take (8+u)) then ([],0,4) else ((l.drop 8).take u,12+u,0):=by
  unfold decB;rw [if_neg (by omega),←hu]
 have Hdec:=Lib.hid hdec
 have Hl8:=Lib.hid hl8
 clear hu hfour hr h hw8 hdec hl8
 have hc8:8≤cap:=by omega
 have hc8i:(8:Int)≤cap:=by omega
 go_enter Tryz.func79,Tryz.ntmps79
 go_wp2_with fail
 refine Hfour.out.mono ?_
 rintro e w1 ⟨rfl,dn,rfl⟩
 go_wp2_with fail
 refine wp_name fun wa hwa=>?_
 have wab:Below w.heap.size w wa:=by rw [hwa];exact below_drawn (Below.refl _ _)
 clear hwa
 have was:=wab.size
 obtain ⟨z,hz⟩:∃ z,z=(l.take 8==headB u):=⟨_,rfl⟩
 have he:∀ (W:World) (ho:Option Addr) (hc:Nat),BAt W (some ⟨b,off,none⟩) (l.take 8)→BAt W ho (headB u)→Calls Tryz.prog 53 #[.slice (some ⟨b,off,none⟩) 8 cap,.slice ho (headB u).length hc] W fun e w'=>e=.returned (.bool z)∧W=w':=by
  intro W ho hc g1 g2
  have:=equal_any (some ⟨b,off,none⟩) ho cap hc (l.take 8) (headB u) W g1 g2
  rw [Hl8.out,←hz] at this
  exact this.mono fun _ _ ⟨a,b⟩=>⟨a,b.symm⟩
 have HE:=Lib.hid he
 have Hz:=Lib.hid hz
 clear he hz
 go_region_held3 (fun W=>Below wa.heap.size wa W∧∀ b o,b<wa.heap.size→W.cell? ⟨b,o,none⟩=wa.cell? ⟨b,o,none⟩) (first | exact stay_drew _ | exact stay_next (by assumption) (by assumption)) (first
  | (go_at_call 120;refine (headOf_any u _ hul).mono ?_;rintro e y1 ⟨ho,hc,rfl,h1,b1⟩;have H1:=Lib.hid h1.sl;have C1:Below w.heap.size w y1:=wab.trans (((Below.refl wa.heap.size wa).drew.trans b1).mono wab.size);clear h1)
  | (go_at_call 53;refine (HE.out _ ho hc (Hw8.out.below C1) H1.out.at_).mono ?_;rintro e y2 ⟨rfl,rfl⟩;have b2:=Below.refl y1.heap.size y1))
 have hs1:=C1.size
 have HC1:=Lib.hid C1
 have HS1:=Lib.hid (HS.out.grow C1)
 clear C1 b1 b2 wab
 cases z with
 | false =>
  have hd:decB l=([],0,4):=by
   rw [Hdec.out,if_pos]
   intro e
   have:=Hz.out
   rw [e] at this
   simp at this
  have Hd:=Lib.hid hd
  clear hd
  go_wp2_with fail
  go_ret3
  rw [Hd.out]
  exact ⟨none,0,rfl,own_none _ _,HC1.out⟩
 | true =>
  have hq:l.take 8=headB u:=by have:=Hz.out;simpa using this.symm
  have hd1:decB l=if 1048576<u then ([],0,5) else if l.length<12+u then ([],0,2) else if unFour (l.drop (8+u))≠sumOf (l.take (8+u)) then ([],0,4) else ((l.drop 8).take u,12+u,0):=by
   rw [Hdec.out,if_neg (by simpa using hq)]
  have Hd1:=Lib.hid hd1
  clear Hdec hd1 hq Hz HE
  by_cases hbig:(1048576:Int)<u
  ·have hd:decB l=([],0,5):=by rw [Hd1.out,if_pos (by omega)]
   have Hd:=Lib.hid hd
   clear hd
   go_wp2_with fail
   go_ret3
   rw [Hd.out]
   exact ⟨none,0,rfl,own_none _ _,HC1.out⟩
  by_cases hsh:(l.length:Int)<12+u
  ·have hd:decB l=([],0,2):=by rw [Hd1.out,if_neg (by omega),if_pos (by omega)]
   have Hd:=Lib.hid hd
   have hsh2:(l.length:Int) - 8 - 4<u:=by omega
   clear hd
   go_wp2_with fail
   go_ret3
   rw [Hd.out]
   exact ⟨none,0,rfl,own_none _ _,HC1.out⟩
  have hsh2:¬(l.length:Int) - 8 - 4<u:=by omega
  have hlt1:(l.take (8+u)).length=8+u:=by rw [List.length_take];omega
  have hld1:(l.drop (8+u)).length=l.length - (8+u):=List.length_drop
  have hb1:b<y1.heap.size:=by omega
  have hr1:BRow y1 b off l:=Hr.out.below hb HC1.out
  have hat1:BAt y1 (some ⟨b,off,none⟩) (l.take (8+u)):=by have:=bat_cut hb1 hr1 0 (8+u);simpa using this
  have hat2:BAt y1 (some ⟨b,off+(8+u),none⟩) (l.drop (8+u)):=by
   have:=bat_cut hb1 hr1 (8+u) (l.length - (8+u))
   rwa [List.take_of_length_le (by rw [List.length_drop];omega)] at this
  have hat3:BAt y1 (some ⟨b,off+8,none⟩) ((l.drop 8).take u):=bat_cut hb1 hr1 8 u
  have hl3:((l.drop 8).take u).length=u:=by rw [List.length_take,List.length_drop];omega
  have hf:=fromFour_b (some ⟨b,off+(8+u),none⟩) (cap - (8+u)) (l.drop (8+u)) y1 hat2 (by rw [hld1];omega)
  obtain ⟨s,hs⟩:∃ s,s=unFour (l.drop (8+u)):=⟨_,rfl⟩
  obtain ⟨t,ht⟩:∃ t,t=sumOf (l.take (8+u)):=⟨_,rfl⟩
  rw [←hs,hld1] at hf
  have hd2:decB l=if s≠t then ([],0,4) else ((l.drop 8).take u,12+u,0):=by rw [Hd1.out,if_neg (by omega),if_neg (by omega),hs,ht]
  have hsum:∀ W,Below y1.heap.size y1 W→Calls Tryz.prog 122 #[.slice (some ⟨W.heap.size,0,none⟩) 1 1] (W.alloc (.cells #[.slice (some ⟨b,off,none⟩) (8+u:Nat) cap] 47)) fun e w'=>e=.returned (.int .u32 (t:Nat))∧w'=W.alloc (.cells #[.slice (some ⟨b,off,none⟩) (8+u:Nat) cap] 47):=by
   intro W hW
   have:=sum_one (c:=cap) (⟨by rw [hlt1];omega,hcm,fun h=>(nomatch h),hat1.below hW⟩:Sl W (some ⟨b,off,none⟩) cap (l.take (8+u))) 47 _ rfl
   rw [hlt1,←ht] at this
   exact this
  have hclone:∀ W,Below y1.heap.size y1 W→Calls Tryz.prog 80 #[.slice (some ⟨b,off+8,none⟩) u (cap - 8)] W fun e w'=>∃ ao cap,e=.returned (.slice ao u cap)∧OwnB w' W.heap.size ao cap ((l.drop 8).take u)∧Below W.heap.size W w':=by
   intro W hW
   have:=clone_any (some ⟨b,off+8,none⟩) (cap - 8) ((l.drop 8).take u) W (fun h=>(nomatch h)) (hat3.below hW) (by rw [hl3];omega)
   unfold FreshB at this
   rw [hl3] at this
   exact this
  have Hf:=Lib.hid hf
  have Hsum:=Lib.hid hsum
  have Hclone:=Lib.hid hclone
  have Hd2:=Lib.hid hd2
  have Hl3:=Lib.hid hl3
  clear hlt1 hld1 hr1 hat1 hat2 hat3 hf hs ht hd2 hsum hclone Hd1 hl3
  have hk1:8+u≤cap:=by omega
  have hk2:(8:Int)+u≤cap:=by omega
  have hk3:8+u≤l.length:=by omega
  go_wp2_with fail
  refine Hf.out.mono ?_
  rintro e y2 ⟨rfl,b2⟩
  have Y2:=Lib.hid b2
  have s2:=b2.size
  clear b2 Hf
  go_wp2_with fail
  refine (Hsum.out _ Y2.out).mono ?_
  rintro e y3 ⟨rfl,rfl⟩
  have Y3:=Lib.hid (Y2.out.trans ((below_allocF y2 (.cells #[.slice (some ⟨b,off,none⟩) (8+u:Nat) cap] 47)).mono s2))
  by_cases hst:s=t
  ·subst hst
   have hd:decB l=((l.drop 8).take u,12+u,0):=by rw [Hd2.out,if_neg (by simp)]
   have Hd:=Lib.hid hd
   clear hd Hd2
   go_wp2_with fail
   refine (Hclone.out _ Y3.out).mono ?_
   rintro e y4 ⟨ro,rc,rfl,ho,hb4⟩
   have HO:=Lib.hid ho
   have HB:=Lib.hid (HC1.out.trans ((Y3.out.trans (hb4.mono (by have:=Y3.out.size;omega))).mono hs1))
   have hbase:w.heap.size≤(y2.alloc (.cells #[.slice (some ⟨b,off,none⟩) (8+u:Nat) cap] 47)).heap.size:=by have:=Y3.out.size;omega
   have HO2:=Lib.hid (own_weak ho hbase)
   clear ho hb4 hbase HO
   go_wp2_with fail
   go_ret3
   rw [Hd.out]
   exact ⟨ro,rc,(show Ending.returned (.tuple #[.slice ro u rc,.int .i64 (8+(u:Int)+4),.int .i64 0])=_ from by rw [show (8+(u:Int)+4)=((12+u:Nat):Int) from by omega];simp only [Hl3.out];rfl),HO2.out,HB.out⟩
  ·have hd:decB l=([],0,4):=by rw [Hd2.out,if_pos hst]
   have Hd:=Lib.hid hd
   have hne:((s:Int) != t)=true:=by simp;omega
   clear hd Hd2
   go_wp2_with fail
   go_ret3
   rw [Hd.out]
   exact ⟨none,0,rfl,own_none _ _,HC1.out.trans (Y3.out.mono hs1)⟩
def oneB (l:List UInt8):List UInt8 × Nat:=if (decB l).2.2=0∧(decB l).2.1≠l.length then ([],3) else ((decB l).1,(decB l).2.2)
def OnePost (w:World) (r:List UInt8 × Nat) (e:Ending) (w':World):Prop:=∃ ao cap,e=.returned (.tuple #[.slice ao r.1.length cap,.int .i64 (r.2:Nat)])∧OwnB w' w.heap.size ao cap r.1∧Below w.heap.size w w'
theorem one_any (ao:Option Addr) (cap:Nat) (l:List UInt8) (w:World) (h:Sl w ao cap l) (hm:l.length≤140737488351232) :
 Calls Tryz.prog 47 #[.slice ao l.length cap] w (OnePost w (oneB l)):=by
 have H:=Lib.hid (decode_any ao cap l w h hm)
 obtain ⟨d,n,c,hd⟩:∃ d n c,decB l=(d,n,c):=⟨_,_,_,rfl⟩
 have h1:oneB l=if c=0∧n≠l.length then ([],3) else (d,c):=by unfold oneB;rw [hd]
 have H1:=Lib.hid h1
 rw [hd] at H
 clear h h1 hd
 by_cases hc:c=0
 ·subst hc
  by_cases hn:n=l.length
  all_goals
   (first | (have hb:((n:Int) != l.length)=false:=by simp;omega) | (have hb:((n:Int) != l.length)=true:=by simp;omega))
   have Hn:=Lib.hid hn
   clear hn
   go_enter Tryz.func47,Tryz.ntmps47
   go_wp2_with fail
   refine H.out.mono ?_
   rintro e w1 ⟨ro,rc,rfl,ho,hb1⟩
   have HO:=Lib.hid ho
   have HB:=Lib.hid hb1
   clear ho hb1
   simp only
   go_wp2_with fail
   go_ret2
  ·rw [H1.out,if_neg (by simp [Hn.out])]
   exact ⟨ro,rc,by first | rfl | trivial,HO.out,HB.out⟩
  ·rw [H1.out,if_pos ⟨by first | rfl | trivial,Hn.out⟩]
   exact ⟨none,0,by first | rfl | trivial,own_none _ _,HB.out⟩
 ·have hc0:((c:Int)==0)=false:=by rw [beq_eq_false_iff_ne];omega
  go_enter Tryz.func47,Tryz.ntmps47
  go_wp2_with fail
  refine H.out.mono ?_
  rintro e w1 ⟨ro,rc,rfl,ho,hb1⟩
  have HO:=Lib.hid ho
  have HB:=Lib.hid hb1
  clear ho hb1
  simp only
  go_wp2_with fail
  go_ret2
  rw [H1.out,if_neg (by simp [hc])]
  exact ⟨ro,rc,by first | rfl | trivial,HO.out,HB.out⟩
end Go.Proofs.YtogamdaomdoapaaGreat.F