/- Texts put together: FrRefEnc, WMo. -/
import Derived.Test.YtogamdaomdoapaaGreatSa07
import Derived.Test.YtogamdaomdoapaaGreatSa19
import Derived.Test.YtogamdaomdoapaaGreatSa20
import Derived.Test.YtogamdaomdoapaaGreatSa31
import Derived.Test.YtogamdaomdoapaaGreatSa40
import Derived.Test.YtogamdaomdoapaaGreatSa46
import Derived.Test.YtogamdaomdoapaaGreatSa48
import Derived.ArgAppend
import Derived.Lib.SmallJoins
namespace Go.Proofs.YtogamdaomdoapaaGreat.F
set_option maxRecDepth 20000
open Go.RowKit Go.Joins
def REncPost (w:World) (p:List UInt8) (e:Ending) (w':World):Prop:=∃ ao cap,e=.returned (.tuple #[.slice ao (frameB p).length cap,.int .i64 0])∧OwnB w' w.heap.size ao cap (frameB p)∧Below w.heap.size w w'
set_option maxHeartbeats 4000000 in
theorem refEncode_any (ao:Option Addr) (cap:Nat) (p:List UInt8) (w:World) (h:Sl w ao cap p) (hl:p.length≤1048576) :
 Calls Tryz.prog 56 #[.slice ao p.length cap] w (REncPost w p):=by
 obtain ⟨i0,hi,hz0,hz1,hz2⟩:=info_parts byteInfo
 have H:=Lib.hid h
 clear h
 have hsl:=sumOf_lt (fourB p.length)
 have hsl2:=sumOf_lt (headB p.length++p)
 go_enter Tryz.func56,Tryz.ntmps56
 go_wp2_with fail
 refine (qsatrapyref1.Four_any p.length _ (by omega)).mono ?_
 rintro e w1 ⟨rfl,h1,b1⟩
 have H1:=Lib.hid h1
 have B1:=Lib.hid b1
 have s1:=b1.size
 have hg1:=(own_lt h1 w.heap.size rfl).1
 have hsum:=refSum_any (some ⟨w.heap.size,0,none⟩) 4 (fourB p.length) w1 h1.at (by rw [fourB_length];omega)
 have Hsum:=Lib.hid hsum
 clear h1 b1 hsum
 go_wp2_with fail
 refine (show Calls Tryz.prog 90 #[.slice (some ⟨w.heap.size,0,none⟩) 4 4] w1 _ from Hsum.out).mono ?_
 rintro e w2 ⟨rfl,rfl⟩
 go_wp2_with fail
 refine (qsatrapyref1.Four_any _ _ hsl).mono ?_
 rintro e w3 ⟨rfl,h3,b3⟩
 have H3:=Lib.hid h3
 have H13:=Lib.hid (own_grow H1.out b3)
 have B3:=Lib.hid (B1.out.trans (b3.mono s1))
 have s3:=b3.size
 clear h3 b3 H1 B1 Hsum
 go_wp2_with (at_builtin;go_must (refine wpList_append_foot _ rfl (.tmp 12) (.tmp 15) 47 rfl w.heap.size 5 i0 (.int .u8 0) 1 1 Tryz.underlying47 hi hz0 hz1 hz2 rfl (by decide) (some ⟨w.heap.size,0,none⟩) 4 4 (bytV (fourB p.length)) rfl H13.out (some ⟨w2.heap.size,0,none⟩) 4 4 (bytV (fourB (sumOf (fourB p.length)))) rfl (fun h=>(nomatch h)) (by rw [bytV_length];first | rfl | omega) (BAt.cells H3.out.at) (bytV_one _) (by unfold maxLen;omega) (by omega) (by omega) ?_))
 intro co c4 w4 hown hgrow hco
 have hb4:Below w.heap.size w w4:=below_grown B3.out (by omega) hgrow (fun k hk=>own_block H13.out hk)
 have ho4:OwnB w4 w.heap.size co c4 (headB p.length):=by unfold OwnB headB;rw [←bytV_append];exact hown
 have HO4:=Lib.hid ho4
 have HB4:=Lib.hid hb4
 have s4:=hb4.size
 have Hp4:=Lib.hid (H.out.grow hb4)
 obtain ⟨hd,hhd⟩:∃ hd,hd=headB p.length:=⟨_,rfl⟩
 rw [←hhd] at HO4 hsl2
 have Hhd:=Lib.hid hhd
 have hdl:hd.length=8:=by rw [hhd];rfl
 have Hdl:=Lib.hid hdl
 clear hown hgrow hco hb4 ho4 H13 H3 B3 hhd hdl
 have hO4:w4.ownsRow w.heap.size 5 1 (.slice co 8 c4) 8 (bytV hd):=by have:=HO4.out;unfold OwnB at this;rwa [Hdl.out] at this
 have HO4':=Lib.hid hO4
 clear hO4
 go_wp2_with (at_builtin;go_must (refine wpList_append_foot _ rfl (.tmp 17) (.tmp 18) 47 rfl w.heap.size 5 i0 (.int .u8 0) 1 1 Tryz.underlying47 hi hz0 hz1 hz2 rfl (by decide) co 8 c4 (bytV hd) rfl HO4'.out ao p.length cap (bytV p) rfl Hp4.out.n0 (by rw [bytV_length];first | rfl | omega) (BAt.cells Hp4.out.at_) (bytV_one _) (by unfold maxLen;omega) (by omega) (by omega) ?_))
 intro do5 c5 w5 hown hgrow hco
 have hb5:Below w.heap.size w w5:=below_grown HB4.out (by omega) hgrow (fun k hk=>own_block HO4'.out hk)
 have hl5:(hd++p).length=8+p.length:=by rw [List.length_append,Hdl.out]
 have ho5:OwnB w5 w.heap.size do5 c5 (hd++p):=by unfold OwnB;rw [hl5,←bytV_append];exact hown
 obtain ⟨q,hq⟩:∃ q,q=hd++p:=⟨_,rfl⟩
 rw [←hq] at ho5 hl5 hsl2
 have Hq:=Lib.hid hq
 have Hl5:=Lib.hid hl5
 have HO5:=Lib.hid hown
 rw [bytV_append,←hq] at HO5
 have HB5:=Lib.hid hb5
 have s5:=hb5.size
 have hsum:=refSum_any do5 c5 q w5 ho5.at (by omega)
 rw [hl5] at hsum
 have Hsum:=Lib.hid hsum
 clear hown hgrow hco hb5 ho5 hq hl5 HO4' HO4 HB4 Hp4 hsum
 go_wp2_with fail
 refine Hsum.out.mono ?_
 rintro e w6 ⟨rfl,rfl⟩
 go_wp2_with fail
 refine (qsatrapyref1.Four_any _ _ hsl2).mono ?_
 rintro e w7 ⟨rfl,h7,b7⟩
 have H7:=Lib.hid h7
 have hO7:OwnB w7 w.heap.size do5 c5 q:=own_grow (by have:=HO5.out;unfold OwnB;rw [Hl5.out];exact this) b7
 unfold OwnB at hO7
 rw [Hl5.out] at hO7
 have HO7:=Lib.hid hO7
 have HB7:=Lib.hid (HB5.out.trans (b7.mono s5))
 have s7:=HB7.out.size
 clear h7 b7 hO7 HO5 HB5 Hsum
 go_wp2_with (at_builtin;go_must (refine wpList_append_foot _ rfl (.tmp 20) (.tmp 23) 47 rfl w.heap.size 5 i0 (.int .u8 0) 1 1 Tryz.underlying47 hi hz0 hz1 hz2 rfl (by decide) do5 (8+p.length) c5 (bytV q) rfl HO7.out (some ⟨w6.heap.size,0,none⟩) 4 4 (bytV (fourB (sumOf q))) rfl (fun h=>(nomatch h)) (by rw [bytV_length];first | rfl | omega) (BAt.cells H7.out.at) (bytV_one _) (by unfold maxLen;omega) (by omega) (by omega) ?_))
 intro eo c8 w8 hown hgrow hco
 have hb8:Below w.heap.size w w8:=below_grown HB7.out (by omega) hgrow (fun k hk=>own_block HO7.out hk)
 have hF:q++fourB (sumOf q)=frameB p:=by rw [Hq.out,Hhd.out];rfl
 have hl8:(frameB p).length=8+p.length+4:=by rw [frameB_length];omega
 have ho8:OwnB w8 w.heap.size eo c8 (frameB p):=by unfold OwnB;rw [hl8,←hF,←bytV_append];exact hown
 have HO8:=Lib.hid ho8
 have HB8:=Lib.hid hb8
 have Hl8:=Lib.hid hl8
 clear hown hgrow hco hb8 ho8 hF hl8 HO7 HB7 H7
 go_wp2_with fail
 go_ret2
 exact ⟨eo,c8,by rw [Hl8.out];rfl,HO8.out,HB8.out⟩
end Go.Proofs.YtogamdaomdoapaaGreat.F
namespace Go.Proofs.YtogamdaomdoapaaGreat
set_option maxRecDepth 20000
open Go.RowKit
def moreB (d:Wd):List UInt8:=opsB d++encRow (restW d)
theorem moreB_length {d:Wd} (h:mayW d=true) (hl:Light d):(moreB d).length≤140000:=by
 have h2:=opsB_length d
 have h3:=restW_length h hl
 have h6:=(encN_length (restW d).length).1
 unfold moreB encRow
 simp only [List.length_append]
 omega
theorem wdB_more (d:Wd):wdB d=numsB d++encS d.sf++encS d.st++moreB d:=by unfold wdB moreB;simp only [List.append_assoc]
theorem encC_short {d:Wd} (h:mayW d=true) (k:d.kind=4) (hl:Light d):(O.encC d.ch).length≤131072:=by
 have h1:=restW_length h hl
 unfold restW at h1
 rw [if_neg (by omega),if_pos k] at h1
 exact h1
theorem encRow_le (l:List UInt8):l.length≤(encRow l).length:=by unfold encRow;rw [List.length_append];omega
theorem encP_rowlen (r:Rp):(encRow (encP r)).length≤3000:=by
 have h1:=encP_len r
 have h2:=(encN_length (encP r).length).1
 unfold encRow encP at *
 simp only [List.length_append] at *
 omega
set_option maxHeartbeats 4000000 in
theorem rmore_any {d:Wd} {ms ds:Value} {V:Array Value} (hV:V=wdV d ms ds) (ao dl:Option Addr) (zc dc:Nat) (hms:ms=.slice ao d.mp.zs.length zc) (hds:ds=.slice dl d.data.length dc) (w:World) (hz:O.ZsAt w ao d.mp.zs) (hsl:F.Sl w dl dc d.data) (hl:Light d) (hm:mayW d=true):Calls Tryz.prog 57 #[.agg V] w (FreshB w (moreB d)):=by
 obtain ⟨i0,hii,hz0,hz1,hz2⟩:=info_parts byteInfo
 have HV:=Lib.hid hV
 have HZ:=Lib.hid hz
 have HL:=Lib.hid hl
 have Hsl:=Lib.hid hsl
 have Hms:=Lib.hid hms
 have Hds:=Lib.hid hds
 have Hm:=Lib.hid hm
 clear hV hz hl hsl hms hds hm
 go_enter Tryz.func57,Tryz.ntmps57
 refine wp_holdQ fun R HR=>?_
 refine wp_hold fun C HC=>?_
 go_wp2_with fail
 refine wp_name fun wa hwa=>?_
 obtain ⟨B,hB⟩:∃ B,B=w.heap.size:=⟨_,rfl⟩
 have S:Hid (St w wa [thObj B (.cells V 49 (0,0))]):=by rw [hwa];exact Lib.hid ((St.start w).objN _ B hB)
 rw [←hB]
 clear hwa hB
 ((have hC:=HC.out);clear HC;subst hC)
 refine wp_hold fun CT HCT=>?_
 refine wp_seq ?_
 refine wp_hold fun C HC=>?_
 obtain ⟨c0,c1,c2,c3,c4,c5,c6,c7,c8,c9,c10,c11,c12,c13,c14,c15,c16,c17,c18,c19,c20,c21,c22,c23,c24,c25,c26,c27,c28,c29,c30,c31,c32,c33,c34,c35,c36⟩:=wboxD (show wa.heap[B]?=some (.cells (wdV d ms ds) 49 (0,0)) from (by rw [←HV.out];exact S.out.head))
 clear c1 c2 c3 c4 c5 c6 c7 c8 c9 c10 c11 c12 c13 c14 c15 c16 c17 c18 c19 c20 c21 c22 c23 c24 c25 c26 c27 c28 c29 c30 c31 c32 c33 c34 c35 c36
 go_wp2_with fail
 ((have hC:=HC.out);clear HC;subst hC)
 clear c0
 refine wp_block ?_
 by_cases k3:d.kind=3
 ·have t3:(d.kind==3)=true:=by rw [k3];rfl
  have e1:moreB d=encRow (O.encM d.mp):=by unfold moreB opsB restW;simp [k3]
  ((refine wp_hold fun C HC=>?_);(go_wp2_with fail);(have hC:=HC.out);clear HC;subst hC;(refine wp_cond_true rfl ?_))
  obtain ⟨c0,c1,c2,c3,c4,c5,c6,c7,c8,c9,c10,c11,c12,c13,c14,c15,c16,c17,c18,c19,c20,c21,c22,c23,c24,c25,c26,c27,c28,c29,c30,c31,c32,c33,c34,c35,c36⟩:=wboxD (show wa.heap[B]?=some (.cells (wdV d ms ds) 49 (0,0)) from (by rw [←HV.out];exact S.out.head))
  clear c0 c1 c2 c3 c4 c5 c6 c7 c8 c9 c10 c11 c12 c13 c14 c15 c16 c17 c18 c19 c20 c21 c22 c23 c24 c25 c26 c27 c31 c32 c33 c34 c35 c36
  rw [Hms.out] at c30
  go_wp2_with fail
  refine (O.rencM_any ao zc d.mp wa (HZ.out.grow S.out.b) HL.out.mp.sz).mono ?_
  rintro e w1 ⟨yo,yc,rfl,ho,hb1⟩
  have Ho:=Lib.hid ho
  have S1:=Lib.hid (S.out.grow hb1)
  clear ho hb1 S c28 c29 c30
  ((go_wp2_with fail);(refine (refBytes_any yo yc (O.encM d.mp) w1 Ho.out.none Ho.out.at (by have:=HL.out.mp.le;omega)).mono ?_);(rintro e w2 ⟨zo,zk,rfl,ho2,hb2⟩);(have Hf:Hid (FreshB w (moreB d) (.returned (.slice zo (encRow (O.encM d.mp)).length zk)) w2):=Lib.hid (by rw [e1];exact ⟨zo,zk,rfl,own_weak ho2 S1.out.b.size,S1.out.b.trans (hb2.mono S1.out.b.size)⟩));clear ho2 hb2 Ho S1;(go_wp2_with fail);(have hR:=HR.out);clear HR;subst hR;go_ret;exact Hf.out)
 have t3:(d.kind==3)=false:=by rw [beq_eq_false_iff_ne];exact k3
 ((refine wp_hold fun C HC=>?_);(go_wp2_with fail);(have hC:=HC.out);clear HC;subst hC;(refine wp_cond_false rfl ?_))
 by_cases k4:d.kind=4
 ·have t4:(d.kind==4)=true:=by rw [k4];rfl
  have e1:moreB d=encRow (O.encC d.ch):=by unfold moreB opsB restW;simp [k4]
  ((refine wp_hold fun C HC=>?_);(go_wp2_with fail);(have hC:=HC.out);clear HC;subst hC;(refine wp_cond_true rfl ?_))
  obtain ⟨c0,c1,c2,c3,c4,c5,c6,c7,c8,c9,c10,c11,c12,c13,c14,c15,c16,c17,c18,c19,c20,c21,c22,c23,c24,c25,c26,c27,c28,c29,c30,c31,c32,c33,c34,c35,c36⟩:=wboxD (show wa.heap[B]?=some (.cells (wdV d ms ds) 49 (0,0)) from (by rw [←HV.out];exact S.out.head))
  clear c0 c1 c2 c3 c4 c5 c6 c7 c8 c9 c10 c11 c12 c13 c14 c15 c16 c17 c18 c19 c20 c21 c22 c23 c24 c25 c26 c27 c28 c29 c30 c36
  go_wp2_with fail
  refine (O.rencC_any d.ch wa).mono ?_
  rintro e w1 ⟨hb1,h⟩
  rw [if_pos (mayW_ch Hm.out k4)] at h
  obtain ⟨yo,yc,rfl,ho⟩:=h
  have Ho:=Lib.hid ho
  have S1:=Lib.hid (S.out.grow hb1)
  clear ho hb1 S c31 c32 c33 c34 c35
  ((go_wp2_with fail);(refine (refBytes_any yo yc (O.encC d.ch) w1 Ho.out.none Ho.out.at (by have:=encC_short Hm.out k4 HL.out;omega)).mono ?_);(rintro e w2 ⟨zo,zk,rfl,ho2,hb2⟩);(have Hf:Hid (FreshB w (moreB d) (.returned (.slice zo (encRow (O.encC d.ch)).length zk)) w2):=Lib.hid (by rw [e1];exact ⟨zo,zk,rfl,own_weak ho2 S1.out.b.size,S1.out.b.trans (hb2.mono S1.out.b.size)⟩));clear ho2 hb2 Ho S1;(go_wp2_with fail);(have hR:=HR.out);clear HR;subst hR;go_ret;exact Hf.out)
 have t4:(d.kind==4)=false:=by rw [beq_eq_false_iff_ne];exact k4
 ((refine wp_hold fun C HC=>?_);(go_wp2_with fail);(have hC:=HC.out);clear HC;subst hC;(refine wp_cond_false rfl ?_))
 by_cases k5:d.kind=5
 ·have t5:(d.kind==5)=true:=by rw [k5];rfl
  have e1:moreB d=encRow (encO d.op):=by unfold moreB opsB restW;simp [k5]
  ((refine wp_hold fun C HC=>?_);(go_wp2_with fail);(have hC:=HC.out);clear HC;subst hC;(refine wp_cond_true rfl ?_))
  obtain ⟨c0,c1,c2,c3,c4,c5,c6,c7,c8,c9,c10,c11,c12,c13,c14,c15,c16,c17,c18,c19,c20,c21,c22,c23,c24,c25,c26,c27,c28,c29,c30,c31,c32,c33,c34,c35,c36⟩:=wboxD (show wa.heap[B]?=some (.cells (wdV d ms ds) 49 (0,0)) from (by rw [←HV.out];exact S.out.head))
  clear c0 c1 c2 c3 c4 c5 c6 c7 c8 c9 c22 c23 c24 c25 c26 c27 c28 c29 c30 c31 c32 c33 c34 c35 c36
  go_wp2_with fail
  refine (renc_yes d.op wa (mayW_op Hm.out k5)).mono ?_
  rintro e w1 ⟨yo,yc,rfl,ho,hb1⟩
  have Ho:=Lib.hid ho
  have S1:=Lib.hid (S.out.grow hb1)
  clear ho hb1 S c10 c11 c12 c13 c14 c15 c16 c17 c18 c19 c20 c21
  ((go_wp2_with fail);(refine (refBytes_any yo yc (encO d.op) w1 Ho.out.none Ho.out.at (by have:=(encO_shortW (mayW_op Hm.out k5));omega)).mono ?_);(rintro e w2 ⟨zo,zk,rfl,ho2,hb2⟩);(have Hf:Hid (FreshB w (moreB d) (.returned (.slice zo (encRow (encO d.op)).length zk)) w2):=Lib.hid (by rw [e1];exact ⟨zo,zk,rfl,own_weak ho2 S1.out.b.size,S1.out.b.trans (hb2.mono S1.out.b.size)⟩));clear ho2 hb2 Ho S1;(go_wp2_with fail);(have hR:=HR.out);clear HR;subst hR;go_ret;exact Hf.out)
 have t5:(d.kind==5)=false:=by rw [beq_eq_false_iff_ne];exact k5
 ((refine wp_hold fun C HC=>?_);(go_wp2_with fail);(have hC:=HC.out);clear HC;subst hC;(refine wp_cond_false rfl ?_))
 by_cases k6:d.kind=6
 ·have t6:(d.kind==6)=true:=by rw [k6];rfl
  have e1:moreB d=encs [d.op.kind,d.op.client,d.op.seq]++encRow (encP d.rep):=by unfold moreB opsB restW;simp [k6]
  ((refine wp_hold fun C HC=>?_);(go_wp2_with fail);(have hC:=HC.out);clear HC;subst hC;(refine wp_cond_true rfl ?_))
  obtain ⟨c0,c1,c2,c3,c4,c5,c6,c7,c8,c9,c10,c11,c12,c13,c14,c15,c16,c17,c18,c19,c20,c21,c22,c23,c24,c25,c26,c27,c28,c29,c30,c31,c32,c33,c34,c35,c36⟩:=wboxD (show wa.heap[B]?=some (.cells (wdV d ms ds) 49 (0,0)) from (by rw [←HV.out];exact S.out.head))
  clear c0 c1 c2 c3 c4 c5 c6 c7 c8 c9 c10 c11 c12 c13 c14 c15 c16 c17 c18 c19 c20 c21 c28 c29 c30 c31 c32 c33 c34 c35 c36
  go_wp2_with fail
  refine (rencrep_yes d.rep wa (mayW_rep Hm.out k6)).mono ?_
  rintro e w1 ⟨yo,yc,rfl,ho,hb1⟩
  have Ho:=Lib.hid ho
  have S1:=Lib.hid (S.out.grow hb1)
  clear ho hb1 S c22 c23 c24 c25 c26 c27
  obtain ⟨c0,c1,c2,c3,c4,c5,c6,c7,c8,c9,c10,c11,c12,c13,c14,c15,c16,c17,c18,c19,c20,c21,c22,c23,c24,c25,c26,c27,c28,c29,c30,c31,c32,c33,c34,c35,c36⟩:=wboxD (show w1.heap[B]?=some (.cells (wdV d ms ds) 49 (0,0)) from (by rw [←HV.out];exact S1.out.head))
  have sB:=(S1.out.cellsN 0 rfl).1
  clear c0 c1 c2 c3 c4 c5 c6 c7 c8 c9 c13 c14 c15 c16 c17 c18 c19 c20 c21 c22 c23 c24 c25 c26 c27 c28 c29 c30 c31 c32 c33 c34 c35 c36
  go_wp2_with fail
  obtain ⟨q1,hq1⟩:∃ q,q=encs [d.op.kind,d.op.client,d.op.seq]:=⟨_,rfl⟩
  obtain ⟨q2,hq2⟩:∃ q,q=encRow (encP d.rep):=⟨_,rfl⟩
  have e2:moreB d=q1++q2:=by rw [hq1,hq2];exact e1
  have l1:q1.length≤30:=by rw [hq1];exact encs_length _
  have l2:q2.length≤3000:=by rw [hq2];exact encP_rowlen _
  refine (refNums_eq [d.op.kind,d.op.client,d.op.seq] w1 w1.heap.size 3 _ rfl rfl rfl (by simp) q1 hq1.symm).mono ?_
  rintro e w3 ⟨no,nc,rfl,ho3,hb3⟩
  have S3:Hid (St w w3 (thOwn w.heap.size no nc q1::[thObj B (.cells V 49 (0,0))])):=Lib.hid (S1.out.new hb3 (thOwn w.heap.size no nc q1) (own_weak ho3 S1.out.b.size) (fun x hx=>by
   obtain ⟨a,rfl,rfl⟩:=hx
   exact (own_lt ho3 a.block rfl).2))
  have Ho3:=Lib.hid (own_growO Ho.out hb3)
  have hcall:=fun w=>fun hh hh2=>refBytes_any yo yc (encP d.rep) w hh hh2 (by have:=encP_rowlen d.rep;have:=encRow_le (encP d.rep);omega)
  rw [←hq2] at hcall
  have Hcall:=Lib.hid hcall
  clear hcall hb3 ho3 Ho c10 c11 c12 sB S1 e1 hq1 hq2
  have e1:=e2
  clear e2
  go_wp2_with fail
  refine (Hcall.out _ Ho3.out.none Ho3.out.at).mono ?_
  rintro e w4 ⟨bo,bc,rfl,ho,hb4⟩
  have s4:=Lib.hid (S3.out.grow hb4)
  clear hb4 S3 Hcall Ho3
  go_wp2_with (at_builtin;go_must (refine wpList_append_foot _ rfl (.tmp 55) (.tmp 57) 47 rfl w.heap.size 5 i0 (.int .u8 0) 1 1 Tryz.underlying47 hii hz0 hz1 hz2 rfl (by decide) _ q1.length _ (bytV q1) rfl s4.out.head bo q2.length bc (bytV q2) rfl ho.none (by rw [bytV_length,Nat.mul_one]) ho.at.cells (bytV_one _) (by unfold maxLen;omega) (by omega) (by have:=s4.out.b.size;omega) ?_));intro co c1 w2 hown hgrow hco
  have S5:=Lib.hid (s4.out.appended hown hgrow hco)
  clear hown hgrow hco s4 ho
  have Hf:Hid (FreshB w (moreB d) (.returned (.slice co (q1.length+q2.length) c1)) w2):=Lib.hid (by rw [e1,←List.length_append];exact ⟨co,c1,rfl,S5.out.head,S5.out.b⟩)
  clear S5
  go_wp2_with fail
  have hR:=HR.out
  clear HR
  subst hR
  go_ret
  exact Hf.out
 have t6:(d.kind==6)=false:=by rw [beq_eq_false_iff_ne];exact k6
 ((refine wp_hold fun C HC=>?_);(go_wp2_with fail);(have hC:=HC.out);clear HC;subst hC;(refine wp_cond_false rfl ?_))
 have e1:moreB d=encRow d.data:=by unfold moreB opsB restW;simp [k3,k4,k5,k6]
 (have hC:=HCT.out);clear HCT;subst hC
 obtain ⟨c0,c1,c2,c3,c4,c5,c6,c7,c8,c9,c10,c11,c12,c13,c14,c15,c16,c17,c18,c19,c20,c21,c22,c23,c24,c25,c26,c27,c28,c29,c30,c31,c32,c33,c34,c35,c36⟩:=wboxD (show wa.heap[B]?=some (.cells (wdV d ms ds) 49 (0,0)) from (by rw [←HV.out];exact S.out.head))
 clear c0 c1 c2 c3 c4 c5 c6 c7 c8 c9 c10 c11 c12 c13 c14 c15 c16 c17 c18 c19 c20 c21 c22 c23 c24 c25 c26 c27 c28 c29 c30 c31 c32 c33 c34 c35
 rw [Hds.out] at c36
 go_wp2_with fail
 refine (refBytes_any dl dc d.data wa (Hsl.out.grow S.out.b).n0 (Hsl.out.grow S.out.b).at_ (by have:=HL.out.data;omega)).mono ?_
 rintro e w2 ⟨zo,zk,rfl,ho2,hb2⟩
 have Hf:Hid (FreshB w (moreB d) (.returned (.slice zo (encRow d.data).length zk)) w2):=Lib.hid (by rw [e1];exact ⟨zo,zk,rfl,own_weak ho2 S.out.b.size,S.out.b.trans (hb2.mono S.out.b.size)⟩)
 clear ho2 hb2 S c36
 go_wp2_with fail
 (have hR:=HR.out);clear HR;subst hR
 go_ret
 exact Hf.out
def REncWPost (w:World) (d:Wd) (e:Ending) (w':World):Prop:=Below w.heap.size w w' ∧
 if mayW d=true then ∃ ao cap,e=.returned (.tuple #[.slice ao (encW d).length cap,.int .i64 0])∧F.Sl w' ao cap (encW d) else e=.returned (.tuple #[.slice none 0 0,.int .i64 1])
set_option maxHeartbeats 4000000 in
theorem rencW_any {d:Wd} {ms ds:Value} {V:Array Value} (hV:V=wdV d ms ds) (ao dl:Option Addr) (zc dc:Nat) (hms:ms=.slice ao d.mp.zs.length zc) (hds:ds=.slice dl d.data.length dc) (w:World) (hz:O.ZsAt w ao d.mp.zs) (hsl:F.Sl w dl dc d.data) (hl:Light d):Calls Tryz.prog 28 #[.agg V] w (REncWPost w d):=by
 have hs:V.size=37:=by rw [hV];rfl
 obtain ⟨i0,hii,hz0,hz1,hz2⟩:=info_parts byteInfo
 have HV:=Lib.hid hV
 have HL:=Lib.hid hl
 have Hmy:=Lib.hid (fun (w3:World) (hb:Below w.heap.size w w3)=>rmayW_any hV ao dl zc dc hms hds w3 (hz.grow hb) (hsl.grow hb).at_ hl.mp.n)
 rw [docW_eq] at Hmy
 have hcv:=conv_bytes
 cases hm:mayW d with
 | false =>
  have Hm:=Lib.hid hm
  clear hV hz hsl hms hds hl hm
  go_enter Tryz.func28,Tryz.ntmps28
  refine wp_hold fun C HC=>?_
  go_wp2_with fail
  refine wp_name fun wa hwa=>?_
  obtain ⟨B,hB⟩:∃ B,B=w.heap.size:=⟨_,rfl⟩
  have S:Hid (St w wa [thObj B (.cells V 49 (0,0))]):=by rw [hwa];exact Lib.hid ((St.start w).objN _ B hB)
  rw [←hB]
  clear hwa hB
  ((have hC:=HC.out);clear HC;subst hC)
  refine wp_seq ?_
  refine wp_seq ?_
  refine wp_region_lit ?_
  (refine wpList_load_row rfl 49 _ rfl B rfl _ _ _ _ (S.out.head) Tryz.underlying49 rfl (by rw [hs];kernel_rfl) ?_)
  go_wp2_with fail
  refine (Hmy.out _ S.out.b).mono ?_
  rintro e w1 ⟨rfl,hb1⟩
  rw [Hm.out]
  have w1_b:=(S.out.grow hb1).b
  clear hb1 S
  go_wp2_with fail
  go_ret2
  refine ⟨w1_b,?_⟩
  rw [if_neg (by rw [Hm.out];simp)]
  rfl
 | true =>
  have Hm:=Lib.hid hm
  have Hmo:=Lib.hid (fun (w3:World) (hb:Below w.heap.size w w3)=>rmore_any hV ao dl zc dc hms hds w3 (hz.grow hb) (hsl.grow hb) hl hm)
  have hml:=moreB_length hm hl
  clear hV hz hsl hms hds hl hm
  obtain ⟨q1,hq1⟩:∃ q,q=numsB d:=⟨_,rfl⟩
  obtain ⟨q2,hq2⟩:∃ q,q=encS d.sf:=⟨_,rfl⟩
  obtain ⟨q3,hq3⟩:∃ q,q=encS d.st:=⟨_,rfl⟩
  obtain ⟨q4,hq4⟩:∃ q,q=moreB d:=⟨_,rfl⟩
  have l1:q1.length≤80:=by rw [hq1];exact numsB_length d
  have l2:q2.length≤2010:=by rw [hq2];have:=encS_length d.sf;have:=HL.out.sf;omega
  have l3:q3.length≤2010:=by rw [hq3];have:=encS_length d.st;have:=HL.out.st;omega
  have l4:q4.length≤140000:=by rw [hq4];exact hml
  have HX:Hid (encW d=F.frameB (q1++q2++q3++q4)):=by unfold encW;rw [hq1,hq2,hq3,hq4,wdB_more];exact Lib.hid rfl
  have hst2:=fun w3 gg cp (ha:BAt w3 (some ⟨gg,0,none⟩) d.sf.data.toList)=>refBytes_str d.sf gg cp w3 ha (by rw [Array.length_toList];exact Nat.le_trans HL.out.sf (by decide))
  have hst3:=fun w3 gg cp (ha:BAt w3 (some ⟨gg,0,none⟩) d.st.data.toList)=>refBytes_str d.st gg cp w3 ha (by rw [Array.length_toList];exact Nat.le_trans HL.out.st (by decide))
  rw [←hq2] at hst2
  rw [←hq3] at hst3
  rw [←hq4] at Hmo
  have H1:=Lib.hid hq1
  have H2:=Lib.hid hst2
  have H3:=Lib.hid hst3
  clear hq1 hq2 hq3 hq4 hst2 hst3 hml
  go_enter Tryz.func28,Tryz.ntmps28
  refine wp_hold fun C HC=>?_
  go_wp2_with fail
  refine wp_name fun wa hwa=>?_
  obtain ⟨B,hB⟩:∃ B,B=w.heap.size:=⟨_,rfl⟩
  have S:Hid (St w wa [thObj B (.cells V 49 (0,0))]):=by rw [hwa];exact Lib.hid ((St.start w).objN _ B hB)
  rw [←hB]
  clear hwa hB
  ((have hC:=HC.out);clear HC;subst hC)
  refine wp_hold fun C HC=>?_
  refine wp_seq ?_
  refine wp_seq ?_
  refine wp_region_lit ?_
  (refine wpList_load_row rfl 49 _ rfl B rfl _ _ _ _ (S.out.head) Tryz.underlying49 rfl (by rw [hs];kernel_rfl) ?_)
  go_wp2_with fail
  refine (Hmy.out _ S.out.b).mono ?_
  rintro e w1 ⟨rfl,hb1⟩
  rw [Hm.out]
  have S:=Lib.hid (S.out.grow hb1)
  clear hb1
  go_wp2_with fail
  ((have hC:=HC.out);clear HC;subst hC)
  refine wp_hold fun C HC=>?_
  obtain ⟨c0,c1,c2,c3,c4,c5,c6,c7,c8,c9,c10,c11,c12,c13,c14,c15,c16,c17,c18,c19,c20,c21,c22,c23,c24,c25,c26,c27,c28,c29,c30,c31,c32,c33,c34,c35,c36⟩:=wboxD (show w1.heap[B]?=some (.cells (wdV d ms ds) 49 (0,0)) from (by rw [←HV.out];exact S.out.head))
  have sB:=(S.out.cellsN 0 rfl).1
  clear c8 c9 c10 c11 c12 c13 c14 c15 c16 c17 c18 c19 c20 c21 c22 c23 c24 c25 c26 c27 c28 c29 c30 c31 c32 c33 c34 c35 c36
  go_wp2_with fail
  clear c0 c1 c2 c3 c4 c5 c6 c7 sB
  refine (refNums_eq [d.kind,d.zone,d.epoch,d.index,d.size,d.off,d.host,d.err] w1 w1.heap.size 8 _ rfl rfl rfl (by simp) q1 H1.out.symm).mono ?_
  rintro e w2 ⟨no,nc,rfl,ho,hb⟩
  have S:Hid (St w w2 (thOwn w.heap.size no nc q1::[thObj B (.cells V 49 (0,0))])):=Lib.hid (S.out.new hb (thOwn w.heap.size no nc q1) (own_weak ho S.out.b.size) (fun x hx=>by
   obtain ⟨a,rfl,rfl⟩:=hx
   exact (own_lt ho a.block rfl).2))
  clear ho hb
  go_wp2_with fail
  ((have hC:=HC.out);clear HC;subst hC)
  refine wp_hold fun C HC=>?_
  obtain ⟨c0,c1,c2,c3,c4,c5,c6,c7,c8,c9,c10,c11,c12,c13,c14,c15,c16,c17,c18,c19,c20,c21,c22,c23,c24,c25,c26,c27,c28,c29,c30,c31,c32,c33,c34,c35,c36⟩:=wboxD (show w2.heap[B]?=some (.cells (wdV d ms ds) 49 (0,0)) from (by rw [←HV.out];exact (S.out.pull (A:=[_])).head))
  have sB:=(S.out.cellsN 1 rfl).1
  clear c0 c1 c2 c3 c4 c5 c6 c7 c9 c10 c11 c12 c13 c14 c15 c16 c17 c18 c19 c20 c21 c22 c23 c24 c25 c26 c27 c28 c29 c30 c31 c32 c33 c34 c35 c36
  go_wp2_with fail
  clear c8 sB
  refine (H2.out _ _ _ (bytesWorld_bat _ _)).mono ?_
  rintro e w1 ⟨bo,bc,rfl,ho,hb⟩
  have s4:=Lib.hid (S.out.grow ((bytesWorld_below _ _).trans (hb.mono (by rw [bytesWorld_sz];omega))))
  clear hb S
  go_wp2_with (at_builtin;go_must (refine wpList_append_foot _ rfl (.tmp 26) (.tmp 31) 47 rfl w.heap.size 5 i0 (.int .u8 0) 1 1 Tryz.underlying47 hii hz0 hz1 hz2 rfl (by decide) _ q1.length _ (bytV q1) rfl s4.out.head bo q2.length bc (bytV q2) rfl ho.none (by rw [bytV_length,Nat.mul_one]) ho.at.cells (bytV_one _) (by unfold maxLen;omega) (by omega) (by have:=s4.out.b.size;omega) ?_));intro co c1 w2 hown hgrow hco
  obtain ⟨x2,hx⟩:∃ c,c=q1++q2:=⟨_,rfl⟩
  have x2l:x2.length≤2090:=by rw [hx,List.length_append];omega
  rw [←hx] at HX
  rw [←List.length_append,←hx]
  have S:Hid (St w w2 (thOwn w.heap.size co c1 x2::[thObj B (.cells V 49 (0,0))])):=by rw [hx];exact Lib.hid (s4.out.appended hown hgrow hco)
  clear hown hgrow hco s4 ho hx
  go_wp2_with fail
  ((have hC:=HC.out);clear HC;subst hC)
  refine wp_hold fun C HC=>?_
  obtain ⟨c0,c1,c2,c3,c4,c5,c6,c7,c8,c9,c10,c11,c12,c13,c14,c15,c16,c17,c18,c19,c20,c21,c22,c23,c24,c25,c26,c27,c28,c29,c30,c31,c32,c33,c34,c35,c36⟩:=wboxD (show w2.heap[B]?=some (.cells (wdV d ms ds) 49 (0,0)) from (by rw [←HV.out];exact (S.out.pull (A:=[_])).head))
  have sB:=(S.out.cellsN 1 rfl).1
  clear c0 c1 c2 c3 c4 c5 c6 c7 c8 c10 c11 c12 c13 c14 c15 c16 c17 c18 c19 c20 c21 c22 c23 c24 c25 c26 c27 c28 c29 c30 c31 c32 c33 c34 c35 c36
  go_wp2_with fail
  clear c9 sB
  refine (H3.out _ _ _ (bytesWorld_bat _ _)).mono ?_
  rintro e w1 ⟨bo,bc,rfl,ho,hb⟩
  have s4:=Lib.hid (S.out.grow ((bytesWorld_below _ _).trans (hb.mono (by rw [bytesWorld_sz];omega))))
  clear hb S
  go_wp2_with (at_builtin;go_must (refine wpList_append_foot _ rfl (.tmp 33) (.tmp 38) 47 rfl w.heap.size 5 i0 (.int .u8 0) 1 1 Tryz.underlying47 hii hz0 hz1 hz2 rfl (by decide) _ x2.length _ (bytV x2) rfl s4.out.head bo q3.length bc (bytV q3) rfl ho.none (by rw [bytV_length,Nat.mul_one]) ho.at.cells (bytV_one _) (by unfold maxLen;omega) (by omega) (by have:=s4.out.b.size;omega) ?_));intro co c1 w2 hown hgrow hco
  obtain ⟨x3,hx⟩:∃ c,c=x2++q3:=⟨_,rfl⟩
  have x3l:x3.length≤4100:=by rw [hx,List.length_append];omega
  rw [←hx] at HX
  rw [←List.length_append,←hx]
  have S:Hid (St w w2 (thOwn w.heap.size co c1 x3::[thObj B (.cells V 49 (0,0))])):=by rw [hx];exact Lib.hid (s4.out.appended hown hgrow hco)
  clear hown hgrow hco s4 ho hx
  go_wp2_with fail
  ((have hC:=HC.out);clear HC;subst hC)
  refine wp_seq ?_
  refine wp_region_lit ?_
  refine list_hold 1 fun L HL2=>?_
  simp only [List.take_succ_cons,List.take_zero,List.cons_append,List.nil_append]
  go_wp2_with fail
  (have hL:=HL2.out);clear HL2;subst hL
  simp only [List.drop_succ_cons,List.drop_zero]
  (refine wpList_load_row rfl 49 _ rfl B rfl _ _ _ _ ((S.out.pull (A:=[_])).head) Tryz.underlying49 rfl (by rw [hs];kernel_rfl) ?_)
  go_wp2_with fail
  refine (Hmo.out _ S.out.b).mono ?_
  rintro e w1 ⟨bo,bc,rfl,ho,hb⟩
  have s4:=Lib.hid (S.out.grow hb)
  clear hb S
  go_wp2_with (at_builtin;go_must (refine wpList_append_foot _ rfl (.tmp 40) (.tmp 42) 47 rfl w.heap.size 5 i0 (.int .u8 0) 1 1 Tryz.underlying47 hii hz0 hz1 hz2 rfl (by decide) _ x3.length _ (bytV x3) rfl s4.out.head bo q4.length bc (bytV q4) rfl ho.none (by rw [bytV_length,Nat.mul_one]) ho.at.cells (bytV_one _) (by unfold maxLen;omega) (by omega) (by have:=s4.out.b.size;omega) ?_));intro co c1 w2 hown hgrow hco
  obtain ⟨x4,hx⟩:∃ c,c=x3++q4:=⟨_,rfl⟩
  have x4l:x4.length≤150000:=by rw [hx,List.length_append];omega
  rw [←hx] at HX
  rw [←List.length_append,←hx]
  have S:Hid (St w w2 (thOwn w.heap.size co c1 x4::[thObj B (.cells V 49 (0,0))])):=by rw [hx];exact Lib.hid (s4.out.appended hown hgrow hco)
  clear hown hgrow hco s4 ho hx
  go_wp2_with fail
  refine (F.refEncode_any co c1 x4 w2 S.out.head.sl (by omega)).mono ?_
  rintro e w3 ⟨fo,fc,rfl,ho,hb⟩
  have w3_b:=(S.out.grow hb).b
  have Ho:=Lib.hid ho.sl
  clear ho hb S
  go_wp2_with fail
  go_ret2
  refine ⟨w3_b,?_⟩
  rw [if_pos Hm.out,HX.out]
  exact ⟨fo,fc,rfl,Ho.out⟩
end Go.Proofs.YtogamdaomdoapaaGreat