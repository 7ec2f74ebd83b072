/- Texts put together: REnc, RDec. -/
import Derived.Test.YtogamdaomdoapaaGreatGa04
import Derived.Test.YtogamdaomdoapaaGreatGa15
import Derived.Test.YtogamdaomdoapaaGreatGa28
import Derived.Test.YtogamdaomdoapaaGreatGa30
import Derived.Test.YtogamdaomdoapaaGreatGa31
namespace Go.Proofs.YtogamdaomdoapaaGreat
open Go.Value renaming int→aI,string→aS,bool→aB
open Go.IntKind renaming i64→aK
open List renaming length_append→lL
open Go.Lib renaming hid→uH
open Go.RowKit
attribute [local go_sem ↓] Go.wp_at_zero Go.wp_at_succ
theorem put_eq (k v:ByteArray) (hk:k.size≤16) (hv:v.size≤16) (w:World) (X:List UInt8) (hX:encS k++encS v=X) :
 Calls Tryz.prog 128 #[.agg #[aS k,aS v]] w (d0b w X):=hX▸put_any k v hk hv w
set_option maxRecDepth 20000 in
set_option maxHeartbeats 2000000 in
theorem renc_yes (o:Rq) (w:World) (hm:mayO o=true) :
 Calls Tryz.prog 93 #[.agg #[aI aK o.kind,aI aK o.client,aI aK o.seq,aS o.key,aS o.who,aS o.tkey,aS o.twho,aI aK o.item,aI aK o.count,aI aK o.price,aB o.buy,aI aK o.id]] w fun e w'=>∃ ao cap,e=.returned (.tuple #[.slice ao (encO o).length cap,aI aK 0])∧OwnB w' w.heap.size ao cap (encO o)∧Below w.heap.size w w':=by
 obtain ⟨i0,hi,hz0,hz1,hz2⟩:=info_parts c0h
 have Hz:=uH (g0i hm)
 have Hm:=uH hm
 clear hm
 go_enter Tryz.func93,Tryz.ntmps93
 go_wp2_with fail
 (refine a0e fun wa hwa=>?_;have wa_s0:=sg w.heap.size hwa;obtain ⟨wa_c0,wa_c1,wa_c2,wa_c3,wa_c4,wa_c5,wa_c6,wa_c7,wa_c8,wa_c9,wa_c10,wa_c11⟩:=kz12 hwa w.heap.size (aI aK o.kind) (aI aK o.client) (aI aK o.seq) (aS o.key) (aS o.who) (aS o.tkey) (aS o.twho) (aI aK o.item) (aI aK o.count) (aI aK o.price) (aB o.buy) (aI aK o.id);have wa_b:Below w.heap.size w wa:=(by rw [hwa];exact bg);clear hwa)
 refine (k0a o _ true Hm.out).mono ?_
 (rintro e w1 ⟨rfl,w1_h⟩;obtain ⟨w1_hc,w1_hf⟩:=a0w w1_h;have w1_z:=w1_h.size;have w1_b:=wa_b.trans (w1_h.mono (by have:=wa_b.size;omega));have w1_le:=w1_b.size;have w1_s0:w.heap.size<w1.heap.size:=(by omega);clear w1_h)
 go_wp2_with fail
 obtain ⟨A,hA⟩:∃ A,encs [o.kind,o.client,o.seq]=A:=⟨_,rfl⟩
 obtain ⟨B,hB⟩:∃ B,encS o.key++encS o.who=B:=⟨_,rfl⟩
 obtain ⟨C,hC⟩:∃ C,encS o.tkey++encS o.twho=C:=⟨_,rfl⟩
 obtain ⟨D,hD⟩:∃ D,encs [o.item,o.count,o.price,b1 o.buy,o.id]=D:=⟨_,rfl⟩
 have HL0:Hid (A.length≤30∧B.length≤52∧C.length≤52∧D.length≤50):=by
  have h1:=a0m [o.kind,o.client,o.seq]
  have h2:=l0x o.key Hz.out.1;have h3:=l0x o.who Hz.out.2.1;have h4:=l0x o.tkey Hz.out.2.2.1;have h5:=l0x o.twho Hz.out.2.2.2
  have h6:=a0m [o.item,o.count,o.price,b1 o.buy,o.id]
  subst hA hB hC hD
  refine ⟨by simpa using h1,?_,?_,by simpa using h6⟩<;>rw [lL]<;>omega
 obtain ⟨E1,hE1⟩:∃ E1,A++B=E1:=⟨_,rfl⟩
 obtain ⟨E2,hE2⟩:∃ E2,E1++C=E2:=⟨_,rfl⟩
 obtain ⟨E3,hE3⟩:∃ E3,E2++D=E3:=⟨_,rfl⟩
 have HL:Hid (A.length≤30∧B.length≤52∧C.length≤52∧D.length≤50∧E1.length≤82∧E2.length≤134):=by
  have h:=HL0.out
  subst hE1 hE2
  simp only [Hid,lL];omega
 have HE:Hid (encO o=E3):=by subst hA hB hC hD hE1 hE2 hE3;simp only [Hid,encO,List.append_assoc]
 have HA:=uH hA
 have HB:=uH hB
 have HC:=uH hC
 have HD:=uH hD
 have H1:=uH hE1
 have H2:=uH hE2
 have H3:=uH hE3
 clear hA hB hC hD hE1 hE2 hE3
 refine (f0n [o.kind,o.client,o.seq] w1 w1.heap.size 3 _ rfl rfl rfl (by simp) A HA.out).mono ?_
 rintro e w2 ⟨ao,cap,rfl,ho,hb⟩
 have w2_b:Below w1.heap.size w1 w2:=hb
 obtain ⟨hc2,hf2⟩:=a0w hb
 have w2_s:=hb.size
 have Ho:=uH ho
 clear ho hb
 go_wp2_with fail
 refine (put_eq o.key o.who Hz.out.1 Hz.out.2.1 w2 B HB.out).mono ?_
 rintro e w3 ⟨bo,bc,rfl,hp,hb⟩
 have w3_b:Below w1.heap.size w1 w3:=w2_b.trans (hb.mono (by omega))
 have w3_s:=hb.size
 have Ho3:=uH (c0v Ho.out hb)
 have Hnew:=uH hp
 clear hp hb Ho hc2 hf2
 go_wp2_with (at_builtin;go_must (refine c0i _ rfl (.tmp 16) (.tmp 19) 47 rfl w1.heap.size 5 i0 (aI .u8 0) 1 1 Tryz.underlying47 hi hz0 hz1 hz2 rfl (by decide) (.slice ao (A).length cap) (A).length (bytV (A)) rfl Ho3.out bo (B).length bc (bytV (B)) rfl Hnew.out.none (by rw [a0u,Nat.mul_one]) Hnew.out.at.cells (a0x _) (by have:=HL.out;unfold maxLen;omega) (by have:=HL.out;omega) (by omega) ?_))
 intro vv w4 hown hgrow;have w4_b:Below w1.heap.size w1 w4:=below_grown w3_b (by omega) hgrow (fun j hj=>b0o Ho3.out hj);have w4_s:=w4_b.size;obtain ⟨co,cc,rfl,ho⟩:=c0n (l:=E1) (by rw [←H1.out,←a0y];exact hown) (by rw [←H1.out,lL]); clear hown hgrow
 obtain ⟨hc4,hf4⟩:=bcellB w4_b
 have Ho4:=uH ho
 clear ho Hnew Ho3
 go_wp2_with fail
 refine (put_eq o.tkey o.twho Hz.out.2.2.1 Hz.out.2.2.2 w4 C HC.out).mono ?_
 rintro e w5 ⟨bo,bc,rfl,hp,hb⟩
 have w5_b:Below w1.heap.size w1 w5:=w4_b.trans (hb.mono (by omega))
 have w5_s:=hb.size
 have Ho5:=uH (c0v Ho4.out hb)
 have Hnew:=uH hp
 clear hp hb Ho4 hc4 hf4
 go_wp2_with (at_builtin;go_must (refine c0i _ rfl (.tmp 21) (.tmp 24) 47 rfl w1.heap.size 5 i0 (aI .u8 0) 1 1 Tryz.underlying47 hi hz0 hz1 hz2 rfl (by decide) (.slice co (E1).length cc) (E1).length (bytV (E1)) rfl Ho5.out bo (C).length bc (bytV (C)) rfl Hnew.out.none (by rw [a0u,Nat.mul_one]) Hnew.out.at.cells (a0x _) (by have:=HL.out;unfold maxLen;omega) (by have:=HL.out;omega) (by omega) ?_))
 intro vv w6 hown hgrow;have w6_b:Below w1.heap.size w1 w6:=below_grown w5_b (by omega) hgrow (fun j hj=>b0o Ho5.out hj);have w6_s:=w6_b.size;obtain ⟨do6,dc,rfl,ho⟩:=c0n (l:=E2) (by rw [←H2.out,←a0y];exact hown) (by rw [←H2.out,lL]); clear hown hgrow
 obtain ⟨hc6,hf6⟩:=bcellB w6_b
 have Ho6:=uH ho
 clear ho Hnew Ho5
 go_wp2_with fail
 have e5:=(hc6 w.heap.size 7 (by omega)).trans ((w1_hc w.heap.size 7 (by omega)).trans wa_c7)
 have e6:=(hc6 w.heap.size 8 (by omega)).trans ((w1_hc w.heap.size 8 (by omega)).trans wa_c8)
 have e7:=(hc6 w.heap.size 9 (by omega)).trans ((w1_hc w.heap.size 9 (by omega)).trans wa_c9)
 have e8:=(hc6 w.heap.size 10 (by omega)).trans ((w1_hc w.heap.size 10 (by omega)).trans wa_c10)
 have e9:=(hc6 w.heap.size 11 (by omega)).trans ((w1_hc w.heap.size 11 (by omega)).trans wa_c11)
 have hlt6:w.heap.size<w6.heap.size:=by omega
 clear hc6 hf6 w1_hc w1_hf wa_c0 wa_c1 wa_c2 wa_c3 wa_c4 wa_c5 wa_c6 wa_c7 wa_c8 wa_c9 wa_c10 wa_c11 w5_b w4_b w3_b w2_b
 go_region_held3 (fun W=>∀ o,W.cell? ⟨w.heap.size,o,none⟩=w6.cell? ⟨w.heap.size,o,none⟩) (first | assumption | exact fun _=>rfl | exact fun o=>(w9_b.cell (p:=⟨w.heap.size,o,none⟩) w1_s0).trans (w6_b.cell (p:=⟨w.heap.size,o,none⟩) w1_s0).symm | exact fun o=>hbw8.cell (p:=⟨w.heap.size,o,none⟩) hlt6 | exact fun o=>((a0p w6 _).drew).cell (p:=⟨w.heap.size,o,none⟩) hlt6) (first
  | (go_at_call 129;refine (n0f o.buy _).mono ?_;rintro e W' ⟨rfl,rfl⟩)
  | (go_at_call 54;go_must (refine (i0z [o.item,o.count,o.price,b1 o.buy,o.id] _ w6.heap.size 5 #[aI aK o.item,aI aK o.count,aI aK o.price,aI aK (b1 o.buy),aI aK o.id] ?_ rfl rfl (by simp) D HD.out).mono ?_;(focus (exact b0r w6 _));rintro e w8 ⟨co8,cc8,rfl,ho8,hb8⟩;have hbw8:Below w6.heap.size w6 w8:=((a0p w6 _).drew).trans (hb8.mono (by first | (simp;done) | (simp;omega)))))
  | (refine y0w _ _ (by rfl) ?_;go_must (refine d0o _ (by rfl) (.tmp 26) (.tmp 39) 47 (by rfl) w1.heap.size 5 i0 (aI .u8 0) 1 1 Tryz.underlying47 hi hz0 hz1 hz2 rfl (by decide) (.slice do6 E2.length dc) E2.length (bytV E2) (by rfl) (c0v Ho6.out hbw8) co8 D.length cc8 (bytV D) (by rfl) ho8.none (by rw [a0u,Nat.mul_one]) ho8.at.cells (a0x _) (by have:=HL.out;unfold maxLen;omega) (by have:=HL.out;omega) (by have:=hbw8.size;omega) ?_;intro vv w9 hown hgrow;have w9_b:Below w1.heap.size w1 w9:=below_grown (w6_b.trans (hbw8.mono (by omega))) (by have:=hbw8.size;omega) hgrow (fun j hj=>b0o Ho6.out hj);obtain ⟨do9,dc9,rfl,ho9⟩:=c0n (l:=E3) (by rw [←H3.out,←a0y];exact hown) (by rw [←H3.out,lL]);clear hown hgrow))
  | fail)
 all_goals
  go_wp2_with fail
  go_ret2
  refine ⟨do9,dc9,?_,?_,w1_b.trans (w9_b.mono (by omega))⟩
  ·rw [HE.out,←H3.out,lL];rfl
  ·rw [HE.out];exact b0a ho9 (by omega)
open Go.RowKit
set_option maxRecDepth 20000 in
set_option maxHeartbeats 1000000 in
theorem x0t {W w:World} {L:List Th} {p g:Nat} {rest:List UInt8} {bad:Bool} (h:St W w (thRO W p g rest bad::L)) (hm:rest.length≤140737488351232) (x:List UInt8) (r1:List UInt8) (b1:Bool) (hx:a0q rest bad=(x,r1,b1)) (y:List UInt8) (r2:List UInt8) (b2:Bool) (hy:a0q r1 b1=(y,r2,b2)) :
 Calls Tryz.prog 132 #[.pointer (some ⟨p,0,none⟩)] w fun e w'=>e=.returned (.agg #[aS ⟨x.toArray⟩,aS ⟨y.toArray⟩])∧St W w' (thRO W p g r2 b2::L):=by
 have H:=uH h
 have Hx:=uH hx
 have Hy:=uH hy
 have Hl:Hid (r1.length≤rest.length):=(d0n (x:=x) (r':=r1) (b':=b1) hx.symm).2
 clear h hx hy
 go_enter Tryz.func132,Tryz.ntmps132
 go_wp2_with fail
 have S0:Hid (St W _ (thRO W p g rest bad::a0c w.heap.size (.cells #[aS ⟨#[]⟩,aS ⟨#[]⟩] 28 (0,0))::L)):=(H.out.objN (.cells #[aS ⟨#[]⟩,aS ⟨#[]⟩] 28) w.heap.size rfl).pull (A:=[_])
 clear H
 have hcall:=St.l0z S0.out hm
 rw [Hx.out] at hcall
 refine hcall.mono ?_
 clear hcall S0
 rintro e w1 ⟨ao,ac,rfl,ho,hS⟩
 have S1:=uH hS
 have hcv:=b0c ho.at ac
 clear ho hS
 go_wp2_with fail
 clear hcv
 have hcall:=St.l0z S1.out (by have:=Hl.out;omega)
 rw [Hy.out] at hcall
 refine hcall.mono ?_
 clear hcall S1
 rintro e w2 ⟨bo,bc,rfl,ho,hS⟩
 have S2:=uH hS
 obtain ⟨hl1,hc1,hf1⟩:=S2.out.a0b 1 rfl
 have hcv:=b0c ho.at bc
 clear ho hS
 go_wp2_with fail
 have S3:=uH ((((S2.out.pull (A:=[_])).setObj 0 (aS ⟨x.toArray⟩)).setObj 1 (aS ⟨y.toArray⟩)).drop)
 refine bodyPost_ret (v:=.agg #[aS ⟨x.toArray⟩,aS ⟨y.toArray⟩]) (by simp only [results,Tryz.results132];go_simp) rfl ⟨rfl,S3.out⟩
structure DIn (l:List UInt8) (d:Dq) (r3:List UInt8) (b3:Bool) (r7:List UInt8) (b7:Bool) (r1:List UInt8) (b1:Bool) (r2:List UInt8) (b2:Bool) (s1:List UInt8) (c1:Bool) (s2:List UInt8) (c2:Bool) (s3:List UInt8) (c3:Bool) (s4:List UInt8) (c4:Bool):Prop where
 na:numT l false=(d.k,r1,b1)
 nb:numT r1 b1=(d.c,r2,b2)
 nc:numT r2 b2=(d.s,r3,b3)
 ma:numT r7 b7=(d.i,s1,c1)
 mb:numT s1 c1=(d.n,s2,c2)
 mc:numT s2 c2=(d.p,s3,c3)
 md:numT s3 c3=(d.b,s4,c4)
 me:numT s4 c4=(d.d,d.rest,d.bad)
 la:r1.length≤l.length
 lb:r2.length≤l.length
 va:s1.length≤r7.length
 vb:s2.length≤r7.length
 vc:s3.length≤r7.length
 vd:s4.length≤r7.length
theorem dec_nums {l:List UInt8} {d:Dq} {r3:List UInt8} {b3:Bool} {r4:List UInt8} {b4:Bool} {r5:List UInt8} {b5:Bool} {r6:List UInt8} {b6:Bool} {r7:List UInt8} {b7:Bool} (h:DIs l d r3 b3 r4 b4 r5 b5 r6 b6 r7 b7) :
 ∃ r1 b1 r2 b2 s1 c1 s2 c2 s3 c3 s4 c4,DIn l d r3 b3 r7 b7 r1 b1 r2 b2 s1 c1 s2 c2 s3 c3 s4 c4:=by
 refine ⟨(rdSt l false 1).1,(rdSt l false 1).2,(rdSt l false 2).1,(rdSt l false 2).2,(rdSt r7 b7 1).1,(rdSt r7 b7 1).2,(rdSt r7 b7 2).1,(rdSt r7 b7 2).2,(rdSt r7 b7 3).1,(rdSt r7 b7 3).2,(rdSt r7 b7 4).1,(rdSt r7 b7 4).2,⟨?_,?_,?_,?_,?_,?_,?_,?_,b0f _ _ _,b0f _ _ _,b0f _ _ _,b0f _ _ _,b0f _ _ _,b0f _ _ _⟩⟩
 ·rw [h.qk];exact b0j l false 0 1 rfl
 ·rw [h.qc];exact b0j l false 1 2 rfl
 ·rw [h.qs,h.q3,h.p3];exact b0j l false 2 3 rfl
 ·rw [h.qi];exact b0j r7 b7 0 1 rfl
 ·rw [h.qn];exact b0j r7 b7 1 2 rfl
 ·rw [h.qp];exact b0j r7 b7 2 3 rfl
 ·rw [h.qb];exact b0j r7 b7 3 4 rfl
 ·rw [h.qd,h.qr,h.qx];exact b0j r7 b7 4 5 rfl
set_option maxRecDepth 40000 in
set_option maxHeartbeats 4000000 in
theorem rdec_any (ao:Option Addr) (cap:Nat) (l:List UInt8) (w:World) (hlc:l.length≤cap) (hcm:cap≤9223372036854775807) (h0:ao=none→l.length=0∧cap=0) (ha:BAt w ao l) (hm:l.length≤2000) :
 Calls Tryz.prog 100 #[.slice ao l.length cap] w (j0m w l):=by
 obtain ⟨d,r3,b3,r4,b4,r5,b5,r6,b6,r7,b7,hd,HI⟩:=p0o l
 obtain ⟨r1,b1,r2,b2,s1,c1,s2,c2,s3,c3,s4,c4,HN⟩:=dec_nums HI
 have HI:=uH HI
 have HN:=uH HN
 have Hd:=uH hd
 have Hnew:=uH (((St.start w).objN (.cells #[aI aK 0,aI aK 0,aI aK 0,aS ⟨#[]⟩,aS ⟨#[]⟩,aS ⟨#[]⟩,aS ⟨#[]⟩,aI aK 0,aI aK 0,aI aK 0,aB false,aI aK 0] 30) w.heap.size rfl).newRO (w.heap.size+1) (by simp) ao cap l hlc hcm h0 ha)
 have Hm:=uH hm
 clear hlc hcm h0 ha hd
 go_enter Tryz.func100,Tryz.ntmps100
 go_wp2_with fail
 obtain ⟨g,hS⟩:=Hnew.out
 have S0:=uH hS
 clear hS Hnew
 (have hcall:=St.b0g S0.out (by have h1:=HN.out.la;have h2:=HN.out.lb;have h3:=HN.out.va;have h4:=HN.out.vb;have h5:=HN.out.vc;have h6:=HN.out.vd;have h7:=HI.out.le;omega);(rw [HN.out.na] at hcall);(refine hcall.mono ?_);clear hcall S0;(rintro e w1 ⟨rfl,hS⟩);(have S1:=uH hS);clear hS;(go_wp2_with fail))
 (have hcall:=St.b0g S1.out (by have h1:=HN.out.la;have h2:=HN.out.lb;have h3:=HN.out.va;have h4:=HN.out.vb;have h5:=HN.out.vc;have h6:=HN.out.vd;have h7:=HI.out.le;omega);(rw [HN.out.nb] at hcall);(refine hcall.mono ?_);clear hcall S1;(rintro e w2 ⟨rfl,hS⟩);(have S2:=uH hS);clear hS;(go_wp2_with fail))
 (have hcall:=St.b0g S2.out (by have h1:=HN.out.la;have h2:=HN.out.lb;have h3:=HN.out.va;have h4:=HN.out.vb;have h5:=HN.out.vc;have h6:=HN.out.vd;have h7:=HI.out.le;omega);(rw [HN.out.nc] at hcall);(refine hcall.mono ?_);clear hcall S2;(rintro e w3 ⟨rfl,hS⟩);(have S3:=uH hS);clear hS;(go_wp2_with fail))
 have S4:Hid (St w _ [thRO w (w.heap.size+1) g r3 b3,a0c w3.heap.size (.cells #[aI aK (d.k:Nat),aI aK (d.c:Nat),aI aK (d.s:Nat),aS ⟨#[]⟩,aS ⟨#[]⟩,aS ⟨#[]⟩,aS ⟨#[]⟩,aI aK 0,aI aK 0,aI aK 0,aB false,aI aK 0] 30 (0,0)),a0c w.heap.size (.cells #[aI aK 0,aI aK 0,aI aK 0,aS ⟨#[]⟩,aS ⟨#[]⟩,aS ⟨#[]⟩,aS ⟨#[]⟩,aI aK 0,aI aK 0,aI aK 0,aB false,aI aK 0] 30 (0,0))]):=(S3.out.objN (.cells #[aI aK (d.k:Nat),aI aK (d.c:Nat),aI aK (d.s:Nat),aS ⟨#[]⟩,aS ⟨#[]⟩,aS ⟨#[]⟩,aS ⟨#[]⟩,aI aK 0,aI aK 0,aI aK 0,aB false,aI aK 0] 30) w3.heap.size rfl).pull (A:=[_])
 clear S3
 refine (x0t S4.out (by have:=HI.out.la;omega) _ _ _ HI.out.ta _ _ _ HI.out.tb).mono ?_
 rintro e w4 ⟨rfl,hS⟩
 have S5:=uH hS
 obtain ⟨hl1,hc1,hf1⟩:=S5.out.a0b 1 rfl
 clear hS S4
 go_wp2_with fail
 have S6:=uH ((((S5.out.pull (A:=[_])).setObj 3 (aS ⟨d.key.toArray⟩)).setObj 4 (aS ⟨d.who.toArray⟩)).pull (A:=[_]))
 clear S5 hl1 hc1 hf1
 refine (x0t S6.out (by have:=HI.out.lc;omega) _ _ _ HI.out.tc _ _ _ HI.out.td).mono ?_
 rintro e w5 ⟨rfl,hS⟩
 have S7:=uH hS
 obtain ⟨hl1,hc1,hf1⟩:=S7.out.a0b 1 rfl
 clear hS S6
 go_wp2_with fail
 have S8:=uH ((((S7.out.pull (A:=[_])).setObj 5 (aS ⟨d.tkey.toArray⟩)).setObj 6 (aS ⟨d.twho.toArray⟩)).pull (A:=[_]))
 clear S7 hl1 hc1 hf1
 (have hcall:=St.b0g S8.out (by have h1:=HN.out.la;have h2:=HN.out.lb;have h3:=HN.out.va;have h4:=HN.out.vb;have h5:=HN.out.vc;have h6:=HN.out.vd;have h7:=HI.out.le;omega);(rw [HN.out.ma] at hcall);(refine hcall.mono ?_);clear hcall S8;(rintro e w6 ⟨rfl,hS⟩);(have S9:=uH hS);clear hS;(go_wp2_with fail))
 (have hcall:=St.b0g S9.out (by have h1:=HN.out.la;have h2:=HN.out.lb;have h3:=HN.out.va;have h4:=HN.out.vb;have h5:=HN.out.vc;have h6:=HN.out.vd;have h7:=HI.out.le;omega);(rw [HN.out.mb] at hcall);(refine hcall.mono ?_);clear hcall S9;(rintro e w7 ⟨rfl,hS⟩);(have S10:=uH hS);clear hS;(go_wp2_with fail))
 have hcall:=St.b0g S10.out (by have h5:=HN.out.vb;have h7:=HI.out.le;omega)
 rw [HN.out.mc] at hcall
 refine hcall.mono ?_
 clear hcall S10
 rintro e w8 ⟨rfl,hS⟩
 have S11:=uH hS
 obtain ⟨hl1,hc1,hf1⟩:=S11.out.a0b 1 rfl
 clear hS
 go_wp2_with fail
 have S12:=uH (((((S11.out.pull (A:=[_])).setObj 7 (aI aK (d.i:Nat))).setObj 8 (aI aK (d.n:Nat))).setObj 9 (aI aK (d.p:Nat))).pull (A:=[_]))
 clear S11 hl1 hc1 hf1
 have hcall:=St.b0g S12.out (by have h5:=HN.out.vc;have h7:=HI.out.le;omega)
 rw [HN.out.md] at hcall
 refine hcall.mono ?_
 clear hcall S12
 rintro e w9 ⟨rfl,hS⟩
 have S13:Hid (St w w9 [thRO w (w.heap.size+1) g s4 c4,a0c w3.heap.size (.cells #[aI aK (d.k:Nat),aI aK (d.c:Nat),aI aK (d.s:Nat),aS ⟨d.key.toArray⟩,aS ⟨d.who.toArray⟩,aS ⟨d.tkey.toArray⟩,aS ⟨d.twho.toArray⟩,aI aK (d.i:Nat),aI aK (d.n:Nat),aI aK (d.p:Nat),aB false,aI aK 0] 30 (0,0)),a0c w.heap.size (.cells #[aI aK 0,aI aK 0,aI aK 0,aS ⟨#[]⟩,aS ⟨#[]⟩,aS ⟨#[]⟩,aS ⟨#[]⟩,aI aK 0,aI aK 0,aI aK 0,aB false,aI aK 0] 30 (0,0))]):=hS
 obtain ⟨hl1,hc1,hf1⟩:=S13.out.a0b 1 rfl
 clear hS
 obtain ⟨bb,hbb⟩:∃ bb:Bool,bb=(d.b==1):=⟨_,rfl⟩
 have hbi:((d.b:Int)==1)=bb:=by rw [hbb];exact Bool.eq_iff_iff.2 (by simp only [beq_iff_eq];omega)
 have Hbb:=uH hbb
 clear hbb
 go_wp2_with fail
 have S14:Hid (St w _ [thRO w (w.heap.size+1) g s4 c4,a0c w3.heap.size (.cells #[aI aK (d.k:Nat),aI aK (d.c:Nat),aI aK (d.s:Nat),aS ⟨d.key.toArray⟩,aS ⟨d.who.toArray⟩,aS ⟨d.tkey.toArray⟩,aS ⟨d.twho.toArray⟩,aI aK (d.i:Nat),aI aK (d.n:Nat),aI aK (d.p:Nat),aB bb,aI aK 0] 30 (0,0)),a0c w.heap.size (.cells #[aI aK 0,aI aK 0,aI aK 0,aS ⟨#[]⟩,aS ⟨#[]⟩,aS ⟨#[]⟩,aS ⟨#[]⟩,aI aK 0,aI aK 0,aI aK 0,aB false,aI aK 0] 30 (0,0))]):=((S13.out.pull (A:=[_])).setObj 10 (aB bb)).pull (A:=[_])
 clear S13 hl1 hc1 hf1 hbi
 have hcall:=St.b0g S14.out (by have h5:=HN.out.vd;have h7:=HI.out.le;omega)
 rw [HN.out.me] at hcall
 refine hcall.mono ?_
 clear hcall S14
 rintro e w10 ⟨rfl,hS⟩
 have S15:=uH hS
 obtain ⟨hl1,hc1,hf1⟩:=S15.out.a0b 1 rfl
 clear hS
 go_wp2_with fail
 obtain ⟨w11,hw11⟩:∃ w11,w11=w10.setCell ⟨w3.heap.size,11,none⟩ (aI aK (d.d:Nat)):=⟨_,rfl⟩
 have S16:Hid (St w w11 [thRO w (w.heap.size+1) g d.rest d.bad,a0c w3.heap.size (.cells #[aI aK (d.k:Nat),aI aK (d.c:Nat),aI aK (d.s:Nat),aS ⟨d.key.toArray⟩,aS ⟨d.who.toArray⟩,aS ⟨d.tkey.toArray⟩,aS ⟨d.twho.toArray⟩,aI aK (d.i:Nat),aI aK (d.n:Nat),aI aK (d.p:Nat),aB bb,aI aK (d.d:Nat)] 30 (0,0)),a0c w.heap.size (.cells #[aI aK 0,aI aK 0,aI aK 0,aS ⟨#[]⟩,aS ⟨#[]⟩,aS ⟨#[]⟩,aS ⟨#[]⟩,aI aK 0,aI aK 0,aI aK 0,aB false,aI aK 0] 30 (0,0))]):=by
  rw [hw11];exact ((S15.out.pull (A:=[_])).setObj 11 (aI aK (d.d:Nat))).pull (A:=[_])
 rw [←hw11]
 clear S15 hl1 hc1 hf1 hw11
 have HQ:Hid (dqQ d=⟨d.k,d.c,d.s,⟨d.key.toArray⟩,⟨d.who.toArray⟩,⟨d.tkey.toArray⟩,⟨d.twho.toArray⟩,d.i,d.n,d.p,bb,d.d⟩):=by rw [Hbb.out];rfl
 have HG:Hid (goodD l=(g0e d&&decide (d.b≤1)&&mayO (dqQ d))):=by rw [Hd.out];rfl
 have hwh:=St.r0p S16.out
 obtain ⟨hl0,hc0,hf0⟩:=S16.out.a0b 2 rfl
 obtain ⟨hl1,hc1,hf1⟩:=S16.out.a0b 1 rfl
 have hb11:=S16.out.b
 cases hz:(!d.bad&&d.rest.isEmpty) with
 | false =>
  have HGf:Hid (goodD l=false):=by rw [HG.out];unfold g0e;rw [hz];simp [Hid]
  rw [hz] at hwh
  have Hwh:=uH hwh
  clear hz hwh HG
  refine Hwh.out.mono ?_
  rintro e w12 ⟨rfl,rfl⟩
  (go_wp2_with fail);exact bodyPost_ret (v:=.tuple #[.agg #[aI aK 0,aI aK 0,aI aK 0,aS ⟨#[]⟩,aS ⟨#[]⟩,aS ⟨#[]⟩,aS ⟨#[]⟩,aI aK 0,aI aK 0,aI aK 0,aB false,aI aK 0],aI aK 3]) (by simp only [results,Tryz.results100];go_simp) rfl ⟨bg,by rw [if_neg (by rw [HGf.out];simp)]⟩
 | true =>
  have HGz:Hid (goodD l=(decide (d.b≤1)&&mayO (dqQ d))):=by rw [HG.out];unfold g0e;rw [hz,Bool.true_and];rfl
  rw [hz] at hwh
  have Hwh:=uH hwh
  clear hz hwh HG
  by_cases hb1:d.b≤1
  ·have HGy:Hid (goodD l=mayO (dqQ d)):=by rw [HGz.out,decide_eq_true hb1,Bool.true_and];rfl
   have hdb:decide ((1:Int)<d.b)=false:=by rw [decide_eq_false_iff_not];omega
   have hmy:=fun w=>k0a (dqQ d) w _ rfl
   rw [HQ.out] at hmy
   simp only at hmy
   obtain ⟨my,hmy2⟩:∃ my,my=mayO (dqQ d):=⟨_,rfl⟩
   have hmy3:=hmy2
   rw [HQ.out] at hmy3
   rw [←hmy3] at hmy
   rw [←hmy2] at HGy
   have Hmy:=uH hmy
   clear hmy hmy2 hmy3 HGz hb1
   refine Hwh.out.mono ?_
   rintro e w12 ⟨rfl,rfl⟩
   go_wp2_with fail
   refine (Hmy.out _).mono ?_
   rintro e w13 ⟨rfl,hb⟩
   have S17:=uH (S16.out.grow hb)
   clear hb hl0 hc0 hf0 hl1 hc1 hf1 hb11 S16
   obtain ⟨hl0,hc0,hf0⟩:=S17.out.a0b 2 rfl
   obtain ⟨hl1,hc1,hf1⟩:=S17.out.a0b 1 rfl
   have hb13:=S17.out.b
   cases my with
   | false =>
    have HGf:Hid (goodD l=false):=HGy
    (go_wp2_with fail);exact bodyPost_ret (v:=.tuple #[.agg #[aI aK 0,aI aK 0,aI aK 0,aS ⟨#[]⟩,aS ⟨#[]⟩,aS ⟨#[]⟩,aS ⟨#[]⟩,aI aK 0,aI aK 0,aI aK 0,aB false,aI aK 0],aI aK 3]) (by simp only [results,Tryz.results100];go_simp) rfl ⟨bg,by rw [if_neg (by rw [HGf.out];simp)]⟩
   | true =>
    go_wp2_with fail
    refine bodyPost_ret (v:=.tuple #[.agg #[aI aK (d.k:Nat),aI aK (d.c:Nat),aI aK (d.s:Nat),aS ⟨d.key.toArray⟩,aS ⟨d.who.toArray⟩,aS ⟨d.tkey.toArray⟩,aS ⟨d.twho.toArray⟩,aI aK (d.i:Nat),aI aK (d.n:Nat),aI aK (d.p:Nat),aB bb,aI aK (d.d:Nat)],aI aK 0]) (by simp only [results,Tryz.results100];go_simp) rfl ⟨bg,?_⟩
    rw [if_pos HGy.out,←Hd.out,HQ.out]
  ·have HGf:Hid (goodD l=false):=by rw [HGz.out,decide_eq_false hb1];rfl
   have hdb:decide ((1:Int)<d.b)=true:=by rw [decide_eq_true_eq];omega
   clear HGz hb1
   refine Hwh.out.mono ?_
   rintro e w12 ⟨rfl,rfl⟩
   (go_wp2_with fail);exact bodyPost_ret (v:=.tuple #[.agg #[aI aK 0,aI aK 0,aI aK 0,aS ⟨#[]⟩,aS ⟨#[]⟩,aS ⟨#[]⟩,aS ⟨#[]⟩,aI aK 0,aI aK 0,aI aK 0,aB false,aI aK 0],aI aK 3]) (by simp only [results,Tryz.results100];go_simp) rfl ⟨bg,by rw [if_neg (by rw [HGf.out];simp)]⟩
end Go.Proofs.YtogamdaomdoapaaGreat