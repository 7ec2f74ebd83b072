/- Texts put together: FrScan, FrRefEnc, WMo, GtM. -/
import Derived.Test.YtogamdaomdoapaaGreatGa03
import Derived.Test.YtogamdaomdoapaaGreatGa06
import Derived.Test.YtogamdaomdoapaaGreatGa16
import Derived.Test.YtogamdaomdoapaaGreatGa18
import Derived.Test.YtogamdaomdoapaaGreatGa26
import Derived.Test.YtogamdaomdoapaaGreatGa32
import Derived.Test.YtogamdaomdoapaaGreatGa37
import Derived.Test.YtogamdaomdoapaaGreatGa39
import Derived.ArgAppend
import Derived.Lib.SmallJoins
namespace Go.Proofs.YtogamdaomdoapaaGreat.F
open Go.Value renaming int→aI,string→aS,bool→aB
open Go.IntKind renaming i64→aK
open List renaming length_append→lL
open Go.Lib renaming hid→uH
set_option maxRecDepth 20000
open Go.RowKit
def slV (r:RowR):Value:=.slice r.ao r.bs.length r.cap
structure i0u (w:World) (base:Nat) (ao:Option Addr) (cap:Nat) (L:List RowR):Prop where
 own:w.ownsRow base 47 1 (.slice ao L.length cap) L.length (L.map slV)
 each:∀ r∈L,r.bs.length≤r.cap∧r.cap≤9223372036854775807∧(r.ao=none→r.bs.length=0∧r.cap=0)∧BIn w (fun x=>∀ a,ao=some a→a.block≠x) r.ao r.bs
theorem i0u.nil (w:World) (base:Nat):i0u w base none 0 []:=⟨World.ownsRow_nil _ _ _ _,fun _ h=>by simp at h⟩
theorem i0u.none {w:World} {base:Nat} {ao:Option Addr} {cap:Nat} {L:List RowR} (h:i0u w base ao cap L):ao=.none→L.length=0∧cap=0:=by
 intro e
 subst e
 rcases h.own.2 with ⟨hv,h0⟩ | ⟨g,c,cur,hv,-⟩
 ·simp only [Value.slice.injEq] at hv;exact ⟨h0,hv.2.2⟩
 ·simp at hv
theorem i0u.le {w:World} {base:Nat} {ao:Option Addr} {cap:Nat} {L:List RowR} (h:i0u w base ao cap L):L.length≤cap∧cap≤9223372036854775807:=by
 rcases h.own.2 with ⟨hv,h0⟩ | ⟨g,c,cur,hv,-,-,h1,h2,-⟩
 ·simp only [Value.slice.injEq] at hv;omega
 ·simp only [Value.slice.injEq] at hv
  obtain ⟨-,-,rfl⟩:=hv
  unfold maxLen at h2
  omega
theorem i0u.lt {w:World} {base:Nat} {ao:Option Addr} {cap:Nat} {L:List RowR} (h:i0u w base ao cap L):∀ a,ao=some a→a.block<w.heap.size∧base≤a.block:=by
 rintro a rfl
 rcases h.own.2 with ⟨hv,-⟩ | ⟨g,c,cur,hv,hb,hh,-⟩
 ·simp at hv
 ·simp only [Value.slice.injEq,Option.some.injEq] at hv
  obtain ⟨rfl,-,-⟩:=hv
  exact ⟨lt_of_block hh,hb⟩
theorem i0u.grow {w w':World} {base:Nat} {ao:Option Addr} {cap:Nat} {L:List RowR} (h:i0u w base ao cap L) (b:Below w.heap.size w w'):i0u w' base ao cap L:=by
 refine ⟨⟨h.own.1,?_⟩,fun r hr=>?_⟩
 ·rcases h.own.2 with h2 | ⟨g,c,cur,hv,hg,hh,r⟩
  ·exact .inl h2
  ·exact .inr ⟨g,c,cur,hv,hg,(b.block g (lt_of_block hh)).trans hh,r⟩
 ·obtain ⟨e1,e2,e3,e4⟩:=h.each r hr
  exact ⟨e1,e2,e3,e4.keeps (e0r b (fun _=>False)) (fun _ _ h=>h)⟩
theorem i0u.append {w w1 w3:World} {base:Nat} {ao co ro:Option Addr} {cap c' rc:Nat} {L:List RowR} {d:List UInt8} {t:TypeId} (h:i0u w base ao cap L) (b:Below w.heap.size w w1) (ho:OwnB w1 w.heap.size ro rc d)
 (hown:w3.ownsRow base 47 1 (.slice co (L.length+1) c') (L.length+1) (L.map slV++[.slice ro d.length rc])) (hg:(w1.alloc (.cells #[.slice ro d.length rc] t)).grownBy w3 (Value.slice ao L.length cap).ownBlock)
 (hco:∀ g,co=some g→ao=some g∨w1.heap.size+1≤g.block):i0u w3 base co c' (L++[⟨ro,rc,d⟩]):=by
 have hs1:=b.size
 have K:Keeps w1 w3 (fun x=>∃ a,ao=some a∧a.block=x) :=
  Keeps.trans (e0r (b0s w1 _) (fun _=>False)) ((Keeps.grown hg).weak (T:=fun x=>∃ a,ao=some a∧a.block=x) (fun i _ e=>d0k e.symm)) (fun _ h=>h.elim) (fun _ _ h=>h)
 refine ⟨by rw [lL,List.map_append];exact hown,fun r hr=>?_⟩
 rcases List.mem_append.1 hr with hr | hr
 ·obtain ⟨e1,e2,e3,e4⟩:=(h.grow b).each r hr
  refine ⟨e1,e2,e3,fun hl=>?_⟩
  obtain ⟨x,off,e,hx,hD,hrow⟩:=(h.each r hr).2.2.2 hl
  refine ⟨x,off,e,by have:=K.size;omega,fun a ha hax=>?_,(hrow.below hx b).keeps (by omega) K (fun ⟨a,ha,hax⟩=>hD a ha hax)⟩
  rcases hco a ha with h1 | h1
  ·exact hD a h1 hax
  ·omega
 ·simp only [List.mem_cons,List.not_mem_nil,or_false] at hr
  subst hr
  refine ⟨ho.le.1,ho.le.2,ho.none,fun hl=>?_⟩
  obtain ⟨g,rfl,hg1,hg2,hrow⟩:=ho.row hl
  refine ⟨g,0,rfl,by have:=K.size;omega,fun a ha hax=>?_,hrow.keeps hg2 K (fun ⟨a,ha,hax⟩=>?_)⟩
  ·rcases hco a ha with h1 | h1
   ·have:=(h.lt a h1).1;omega
   ·omega
  ·have:=(h.lt a ha).1;omega
end Go.Proofs.YtogamdaomdoapaaGreat.F
namespace Go.Proofs.YtogamdaomdoapaaGreat.F
open Go.Value renaming int→aI,string→aS,bool→aB
open Go.IntKind renaming i64→aK
open List renaming length_append→lL
open Go.Lib renaming hid→uH
set_option maxRecDepth 20000
open Go.RowKit Go.Joins
def REncPost (w:World) (p:List UInt8) (e:Ending) (w':World):Prop:=∃ ao cap,e=.returned (.tuple #[.slice ao (d0w p).length cap,aI aK 0])∧OwnB w' w.heap.size ao cap (d0w p)∧Below w.heap.size w w'
set_option maxHeartbeats 4000000 in
theorem n0a (ao:Option Addr) (cap:Nat) (p:List UInt8) (w:World) (h:Sl w ao cap p) (hl:p.length≤1048576) :
 Calls Tryz.prog 56 #[.slice ao p.length cap] w (REncPost w p):=by
 obtain ⟨i0,hi,hz0,hz1,hz2⟩:=info_parts c0h
 have H:=uH h
 clear h
 have hsl:=i0e (e0v p.length)
 have hsl2:=i0e (b0x p.length++p)
 go_enter Tryz.func56,Tryz.ntmps56
 go_wp2_with fail
 refine (qsatrapyref1.n0y p.length _ (by omega)).mono ?_
 rintro e w1 ⟨rfl,h1,b1⟩
 have H1:=uH h1
 have B1:=uH b1
 have s1:=b1.size
 have hg1:=(d0a h1 w.heap.size rfl).1
 have hsum:=i0y (some ⟨w.heap.size,0,none⟩) 4 (e0v p.length) w1 h1.at (by rw [f0f];omega)
 have Hsum:=uH hsum
 clear h1 b1 hsum
 go_wp2_with fail
 refine (show Calls Tryz.prog 90 #[.slice (some ⟨w.heap.size,0,none⟩) 4 4] w1 _ from Hsum.out).mono ?_
 rintro e w2 ⟨rfl,rfl⟩
 go_wp2_with fail
 refine (qsatrapyref1.n0y _ _ hsl).mono ?_
 rintro e w3 ⟨rfl,h3,b3⟩
 have H3:=uH h3
 have H13:=uH (s0r H1.out b3)
 have B3:=uH (B1.out.trans (b3.mono s1))
 have s3:=b3.size
 clear h3 b3 H1 B1 Hsum
 go_wp2_with (at_builtin;go_must (refine a0h _ rfl (.tmp 12) (.tmp 15) 47 rfl w.heap.size 5 i0 (aI .u8 0) 1 1 Tryz.underlying47 hi hz0 hz1 hz2 rfl (by decide) (some ⟨w.heap.size,0,none⟩) 4 4 (bytV (e0v p.length)) rfl H13.out (some ⟨w2.heap.size,0,none⟩) 4 4 (bytV (e0v (sumOf (e0v p.length)))) rfl (fun h=>(nomatch h)) (by rw [a0u];first | rfl | omega) (BAt.cells H3.out.at) (a0x _) (by unfold maxLen;omega) (by omega) (by omega) ?_))
 intro co c4 w4 hown hgrow hco
 have hb4:Below w.heap.size w w4:=below_grown B3.out (by omega) hgrow (fun k hk=>b0o H13.out hk)
 have ho4:OwnB w4 w.heap.size co c4 (b0x p.length):=by unfold OwnB b0x;rw [←a0y];exact hown
 have HO4:=uH ho4
 have HB4:=uH hb4
 have s4:=hb4.size
 have Hp4:=uH (H.out.grow hb4)
 obtain ⟨hd,hhd⟩:∃ hd,hd=b0x p.length:=⟨_,rfl⟩
 rw [←hhd] at HO4 hsl2
 have Hhd:=uH hhd
 have hdl:hd.length=8:=by rw [hhd];rfl
 have Hdl:=uH hdl
 clear hown hgrow hco hb4 ho4 H13 H3 B3 hhd hdl
 have hO4:w4.ownsRow w.heap.size 5 1 (.slice co 8 c4) 8 (bytV hd):=by have:=HO4.out;unfold OwnB at this;rwa [Hdl.out] at this
 have HO4':=uH hO4
 clear hO4
 go_wp2_with (at_builtin;go_must (refine a0h _ rfl (.tmp 17) (.tmp 18) 47 rfl w.heap.size 5 i0 (aI .u8 0) 1 1 Tryz.underlying47 hi hz0 hz1 hz2 rfl (by decide) co 8 c4 (bytV hd) rfl HO4'.out ao p.length cap (bytV p) rfl Hp4.out.n0 (by rw [a0u];first | rfl | omega) (BAt.cells Hp4.out.at_) (a0x _) (by unfold maxLen;omega) (by omega) (by omega) ?_))
 intro do5 c5 w5 hown hgrow hco
 have hb5:Below w.heap.size w w5:=below_grown HB4.out (by omega) hgrow (fun k hk=>b0o HO4'.out hk)
 have hl5:(hd++p).length=8+p.length:=by rw [lL,Hdl.out]
 have ho5:OwnB w5 w.heap.size do5 c5 (hd++p):=by unfold OwnB;rw [hl5,←a0y];exact hown
 obtain ⟨q,hq⟩:∃ q,q=hd++p:=⟨_,rfl⟩
 rw [←hq] at ho5 hl5 hsl2
 have Hq:=uH hq
 have Hl5:=uH hl5
 have HO5:=uH hown
 rw [a0y,←hq] at HO5
 have HB5:=uH hb5
 have s5:=hb5.size
 have hsum:=i0y do5 c5 q w5 ho5.at (by omega)
 rw [hl5] at hsum
 have Hsum:=uH hsum
 clear hown hgrow hco hb5 ho5 hq hl5 HO4' HO4 HB4 Hp4 hsum
 go_wp2_with fail
 refine Hsum.out.mono ?_
 rintro e w6 ⟨rfl,rfl⟩
 go_wp2_with fail
 refine (qsatrapyref1.n0y _ _ hsl2).mono ?_
 rintro e w7 ⟨rfl,h7,b7⟩
 have H7:=uH h7
 have hO7:OwnB w7 w.heap.size do5 c5 q:=s0r (by have:=HO5.out;unfold OwnB;rw [Hl5.out];exact this) b7
 unfold OwnB at hO7
 rw [Hl5.out] at hO7
 have HO7:=uH hO7
 have HB7:=uH (HB5.out.trans (b7.mono s5))
 have s7:=HB7.out.size
 clear h7 b7 hO7 HO5 HB5 Hsum
 go_wp2_with (at_builtin;go_must (refine a0h _ rfl (.tmp 20) (.tmp 23) 47 rfl w.heap.size 5 i0 (aI .u8 0) 1 1 Tryz.underlying47 hi hz0 hz1 hz2 rfl (by decide) do5 (8+p.length) c5 (bytV q) rfl HO7.out (some ⟨w6.heap.size,0,none⟩) 4 4 (bytV (e0v (sumOf q))) rfl (fun h=>(nomatch h)) (by rw [a0u];first | rfl | omega) (BAt.cells H7.out.at) (a0x _) (by unfold maxLen;omega) (by omega) (by omega) ?_))
 intro eo c8 w8 hown hgrow hco
 have hb8:Below w.heap.size w w8:=below_grown HB7.out (by omega) hgrow (fun k hk=>b0o HO7.out hk)
 have hF:q++e0v (sumOf q)=d0w p:=by rw [Hq.out,Hhd.out];rfl
 have hl8:(d0w p).length=8+p.length+4:=by rw [f0y];omega
 have ho8:OwnB w8 w.heap.size eo c8 (d0w p):=by unfold OwnB;rw [hl8,←hF,←a0y];exact hown
 have HO8:=uH ho8
 have HB8:=uH hb8
 have Hl8:=uH hl8
 clear hown hgrow hco hb8 ho8 hF hl8 HO7 HB7 H7
 go_wp2_with fail
 go_ret2
 exact ⟨eo,c8,by rw [Hl8.out];rfl,HO8.out,HB8.out⟩
end Go.Proofs.YtogamdaomdoapaaGreat.F
namespace Go.Proofs.YtogamdaomdoapaaGreat
open Go.Value renaming int→aI,string→aS,bool→aB
open Go.IntKind renaming i64→aK
open List renaming length_append→lL
open Go.Lib renaming hid→uH
set_option maxRecDepth 20000
open Go.RowKit
def e0x (d:Wd):List UInt8:=opsB d++a0n (f0h d)
theorem p0b {d:Wd} (h:mayW d=true) (hl:Light d):(e0x d).length≤140000:=by
 have h2:=h0s d
 have h3:=g0h h hl
 have h6:=(a0o (f0h d).length).1
 unfold e0x a0n
 simp only [lL]
 omega
theorem wdB_more (d:Wd):wdB d=j0b d++encS d.sf++encS d.st++e0x d:=by unfold wdB e0x;simp only [List.append_assoc]
theorem u0n {d:Wd} (h:mayW d=true) (k:d.kind=4) (hl:Light d):(O.encC d.ch).length≤131072:=by
 have h1:=g0h h hl
 unfold f0h at h1
 rw [if_neg (by omega),if_pos k] at h1
 exact h1
theorem y0h (l:List UInt8):l.length≤(a0n l).length:=by unfold a0n;rw [lL];omega
theorem l0k (r:Rp):(a0n (encP r)).length≤3000:=by
 have h1:=i0p r
 have h2:=(a0o (encP r).length).1
 unfold a0n encP at *
 simp only [lL] at *
 omega
set_option maxHeartbeats 4000000 in
theorem w0a {d:Wd} {ms ds:Value} {V:Array Value} (hV:V=wdV d ms ds) (ao dl:Option Addr) (zc dc:Nat) (hms:ms=.slice ao d.mp.zs.length zc) (hds:ds=.slice dl d.data.length dc) (w:World) (hz:O.ZsAt w ao d.mp.zs) (hsl:F.Sl w dl dc d.data) (hl:Light d) (hm:mayW d=true):Calls Tryz.prog 57 #[.agg V] w (d0b w (e0x d)):=by
 obtain ⟨i0,hii,hz0,hz1,hz2⟩:=info_parts c0h
 have HV:=uH hV
 have HZ:=uH hz
 have HL:=uH hl
 have Hsl:=uH hsl
 have Hms:=uH hms
 have Hds:=uH hds
 have Hm:=uH hm
 clear hV hz hl hsl hms hds hm
 go_enter Tryz.func57,Tryz.ntmps57
 refine d0m fun R HR=>?_
 refine a0a fun C HC=>?_
 go_wp2_with fail
 refine a0d fun wa hwa=>?_
 obtain ⟨B,hB⟩:∃ B,B=w.heap.size:=⟨_,rfl⟩
 have S:Hid (St w wa [a0c B (.cells V 49 (0,0))]):=by rw [hwa];exact uH ((St.start w).objN _ B hB)
 rw [←hB]
 clear hwa hB
 ((have hC:=HC.out);clear HC;subst hC)
 refine a0a fun CT HCT=>?_
 refine wp_seq ?_
 refine a0a fun C HC=>?_
 obtain ⟨c0,c1,c2,c3,c4,c5,c6,c7,c8,c9,c10,c11,c12,c13,c14,c15,c16,c17,c18,c19,c20,c21,c22,c23,c24,c25,c26,c27,c28,c29,c30,c31,c32,c33,c34,c35,c36⟩:=a0r (show wa.heap[B]?=some (.cells (wdV d ms ds) 49 (0,0)) from (by rw [←HV.out];exact S.out.head))
 clear c1 c2 c3 c4 c5 c6 c7 c8 c9 c10 c11 c12 c13 c14 c15 c16 c17 c18 c19 c20 c21 c22 c23 c24 c25 c26 c27 c28 c29 c30 c31 c32 c33 c34 c35 c36
 go_wp2_with fail
 ((have hC:=HC.out);clear HC;subst hC)
 clear c0
 refine wp_block ?_
 by_cases k3:d.kind=3
 ·have t3:(d.kind==3)=true:=by rw [k3];rfl
  have e1:e0x d=a0n (O.encM d.mp):=by unfold e0x opsB f0h;simp [k3]
  ((refine a0a fun C HC=>?_);(go_wp2_with fail);(have hC:=HC.out);clear HC;subst hC;(refine wp_cond_true rfl ?_))
  obtain ⟨c0,c1,c2,c3,c4,c5,c6,c7,c8,c9,c10,c11,c12,c13,c14,c15,c16,c17,c18,c19,c20,c21,c22,c23,c24,c25,c26,c27,c28,c29,c30,c31,c32,c33,c34,c35,c36⟩:=a0r (show wa.heap[B]?=some (.cells (wdV d ms ds) 49 (0,0)) from (by rw [←HV.out];exact S.out.head))
  clear c0 c1 c2 c3 c4 c5 c6 c7 c8 c9 c10 c11 c12 c13 c14 c15 c16 c17 c18 c19 c20 c21 c22 c23 c24 c25 c26 c27 c31 c32 c33 c34 c35 c36
  rw [Hms.out] at c30
  go_wp2_with fail
  refine (O.w0g ao zc d.mp wa (HZ.out.grow S.out.b) HL.out.mp.sz).mono ?_
  rintro e w1 ⟨yo,yc,rfl,ho,hb1⟩
  have Ho:=uH ho
  have S1:=uH (S.out.grow hb1)
  clear ho hb1 S c28 c29 c30
  ((go_wp2_with fail);(refine (d0l yo yc (O.encM d.mp) w1 Ho.out.none Ho.out.at (by have:=HL.out.mp.le;omega)).mono ?_);(rintro e w2 ⟨zo,zk,rfl,ho2,hb2⟩);(have Hf:Hid (d0b w (e0x d) (.returned (.slice zo (a0n (O.encM d.mp)).length zk)) w2):=uH (by rw [e1];exact ⟨zo,zk,rfl,b0a ho2 S1.out.b.size,S1.out.b.trans (hb2.mono S1.out.b.size)⟩));clear ho2 hb2 Ho S1;(go_wp2_with fail);(have hR:=HR.out);clear HR;subst hR;go_ret;exact Hf.out)
 have t3:(d.kind==3)=false:=by rw [beq_eq_false_iff_ne];exact k3
 ((refine a0a fun C HC=>?_);(go_wp2_with fail);(have hC:=HC.out);clear HC;subst hC;(refine wp_cond_false rfl ?_))
 by_cases k4:d.kind=4
 ·have t4:(d.kind==4)=true:=by rw [k4];rfl
  have e1:e0x d=a0n (O.encC d.ch):=by unfold e0x opsB f0h;simp [k4]
  ((refine a0a fun C HC=>?_);(go_wp2_with fail);(have hC:=HC.out);clear HC;subst hC;(refine wp_cond_true rfl ?_))
  obtain ⟨c0,c1,c2,c3,c4,c5,c6,c7,c8,c9,c10,c11,c12,c13,c14,c15,c16,c17,c18,c19,c20,c21,c22,c23,c24,c25,c26,c27,c28,c29,c30,c31,c32,c33,c34,c35,c36⟩:=a0r (show wa.heap[B]?=some (.cells (wdV d ms ds) 49 (0,0)) from (by rw [←HV.out];exact S.out.head))
  clear c0 c1 c2 c3 c4 c5 c6 c7 c8 c9 c10 c11 c12 c13 c14 c15 c16 c17 c18 c19 c20 c21 c22 c23 c24 c25 c26 c27 c28 c29 c30 c36
  go_wp2_with fail
  refine (O.w0h d.ch wa).mono ?_
  rintro e w1 ⟨hb1,h⟩
  rw [if_pos (q0p Hm.out k4)] at h
  obtain ⟨yo,yc,rfl,ho⟩:=h
  have Ho:=uH ho
  have S1:=uH (S.out.grow hb1)
  clear ho hb1 S c31 c32 c33 c34 c35
  ((go_wp2_with fail);(refine (d0l yo yc (O.encC d.ch) w1 Ho.out.none Ho.out.at (by have:=u0n Hm.out k4 HL.out;omega)).mono ?_);(rintro e w2 ⟨zo,zk,rfl,ho2,hb2⟩);(have Hf:Hid (d0b w (e0x d) (.returned (.slice zo (a0n (O.encC d.ch)).length zk)) w2):=uH (by rw [e1];exact ⟨zo,zk,rfl,b0a ho2 S1.out.b.size,S1.out.b.trans (hb2.mono S1.out.b.size)⟩));clear ho2 hb2 Ho S1;(go_wp2_with fail);(have hR:=HR.out);clear HR;subst hR;go_ret;exact Hf.out)
 have t4:(d.kind==4)=false:=by rw [beq_eq_false_iff_ne];exact k4
 ((refine a0a fun C HC=>?_);(go_wp2_with fail);(have hC:=HC.out);clear HC;subst hC;(refine wp_cond_false rfl ?_))
 by_cases k5:d.kind=5
 ·have t5:(d.kind==5)=true:=by rw [k5];rfl
  have e1:e0x d=a0n (encO d.op):=by unfold e0x opsB f0h;simp [k5]
  ((refine a0a fun C HC=>?_);(go_wp2_with fail);(have hC:=HC.out);clear HC;subst hC;(refine wp_cond_true rfl ?_))
  obtain ⟨c0,c1,c2,c3,c4,c5,c6,c7,c8,c9,c10,c11,c12,c13,c14,c15,c16,c17,c18,c19,c20,c21,c22,c23,c24,c25,c26,c27,c28,c29,c30,c31,c32,c33,c34,c35,c36⟩:=a0r (show wa.heap[B]?=some (.cells (wdV d ms ds) 49 (0,0)) from (by rw [←HV.out];exact S.out.head))
  clear c0 c1 c2 c3 c4 c5 c6 c7 c8 c9 c22 c23 c24 c25 c26 c27 c28 c29 c30 c31 c32 c33 c34 c35 c36
  go_wp2_with fail
  refine (renc_yes d.op wa (n0i Hm.out k5)).mono ?_
  rintro e w1 ⟨yo,yc,rfl,ho,hb1⟩
  have Ho:=uH ho
  have S1:=uH (S.out.grow hb1)
  clear ho hb1 S c10 c11 c12 c13 c14 c15 c16 c17 c18 c19 c20 c21
  ((go_wp2_with fail);(refine (d0l yo yc (encO d.op) w1 Ho.out.none Ho.out.at (by have:=(l0l (n0i Hm.out k5));omega)).mono ?_);(rintro e w2 ⟨zo,zk,rfl,ho2,hb2⟩);(have Hf:Hid (d0b w (e0x d) (.returned (.slice zo (a0n (encO d.op)).length zk)) w2):=uH (by rw [e1];exact ⟨zo,zk,rfl,b0a ho2 S1.out.b.size,S1.out.b.trans (hb2.mono S1.out.b.size)⟩));clear ho2 hb2 Ho S1;(go_wp2_with fail);(have hR:=HR.out);clear HR;subst hR;go_ret;exact Hf.out)
 have t5:(d.kind==5)=false:=by rw [beq_eq_false_iff_ne];exact k5
 ((refine a0a fun C HC=>?_);(go_wp2_with fail);(have hC:=HC.out);clear HC;subst hC;(refine wp_cond_false rfl ?_))
 by_cases k6:d.kind=6
 ·have t6:(d.kind==6)=true:=by rw [k6];rfl
  have e1:e0x d=encs [d.op.kind,d.op.client,d.op.seq]++a0n (encP d.rep):=by unfold e0x opsB f0h;simp [k6]
  ((refine a0a fun C HC=>?_);(go_wp2_with fail);(have hC:=HC.out);clear HC;subst hC;(refine wp_cond_true rfl ?_))
  obtain ⟨c0,c1,c2,c3,c4,c5,c6,c7,c8,c9,c10,c11,c12,c13,c14,c15,c16,c17,c18,c19,c20,c21,c22,c23,c24,c25,c26,c27,c28,c29,c30,c31,c32,c33,c34,c35,c36⟩:=a0r (show wa.heap[B]?=some (.cells (wdV d ms ds) 49 (0,0)) from (by rw [←HV.out];exact S.out.head))
  clear c0 c1 c2 c3 c4 c5 c6 c7 c8 c9 c10 c11 c12 c13 c14 c15 c16 c17 c18 c19 c20 c21 c28 c29 c30 c31 c32 c33 c34 c35 c36
  go_wp2_with fail
  refine (q0c d.rep wa (s0v Hm.out k6)).mono ?_
  rintro e w1 ⟨yo,yc,rfl,ho,hb1⟩
  have Ho:=uH ho
  have S1:=uH (S.out.grow hb1)
  clear ho hb1 S c22 c23 c24 c25 c26 c27
  obtain ⟨c0,c1,c2,c3,c4,c5,c6,c7,c8,c9,c10,c11,c12,c13,c14,c15,c16,c17,c18,c19,c20,c21,c22,c23,c24,c25,c26,c27,c28,c29,c30,c31,c32,c33,c34,c35,c36⟩:=a0r (show w1.heap[B]?=some (.cells (wdV d ms ds) 49 (0,0)) from (by rw [←HV.out];exact S1.out.head))
  have sB:=(S1.out.a0b 0 rfl).1
  clear c0 c1 c2 c3 c4 c5 c6 c7 c8 c9 c13 c14 c15 c16 c17 c18 c19 c20 c21 c22 c23 c24 c25 c26 c27 c28 c29 c30 c31 c32 c33 c34 c35 c36
  go_wp2_with fail
  obtain ⟨q1,hq1⟩:∃ q,q=encs [d.op.kind,d.op.client,d.op.seq]:=⟨_,rfl⟩
  obtain ⟨q2,hq2⟩:∃ q,q=a0n (encP d.rep):=⟨_,rfl⟩
  have e2:e0x d=q1++q2:=by rw [hq1,hq2];exact e1
  have l1:q1.length≤30:=by rw [hq1];exact a0m _
  have l2:q2.length≤3000:=by rw [hq2];exact l0k _
  refine (f0n [d.op.kind,d.op.client,d.op.seq] w1 w1.heap.size 3 _ rfl rfl rfl (by simp) q1 hq1.symm).mono ?_
  rintro e w3 ⟨no,nc,rfl,ho3,hb3⟩
  have S3:Hid (St w w3 (f0g w.heap.size no nc q1::[a0c B (.cells V 49 (0,0))])):=uH (S1.out.new hb3 (f0g w.heap.size no nc q1) (b0a ho3 S1.out.b.size) (fun x hx=>by
   obtain ⟨a,rfl,rfl⟩:=hx
   exact (d0a ho3 a.block rfl).2))
  have Ho3:=uH (c0v Ho.out hb3)
  have hcall:=fun w=>fun hh hh2=>d0l yo yc (encP d.rep) w hh hh2 (by have:=l0k d.rep;have:=y0h (encP d.rep);omega)
  rw [←hq2] at hcall
  have Hcall:=uH hcall
  clear hcall hb3 ho3 Ho c10 c11 c12 sB S1 e1 hq1 hq2
  have e1:=e2
  clear e2
  go_wp2_with fail
  refine (Hcall.out _ Ho3.out.none Ho3.out.at).mono ?_
  rintro e w4 ⟨bo,bc,rfl,ho,hb4⟩
  have s4:=uH (S3.out.grow hb4)
  clear hb4 S3 Hcall Ho3
  go_wp2_with (at_builtin;go_must (refine a0h _ rfl (.tmp 55) (.tmp 57) 47 rfl w.heap.size 5 i0 (aI .u8 0) 1 1 Tryz.underlying47 hii hz0 hz1 hz2 rfl (by decide) _ q1.length _ (bytV q1) rfl s4.out.head bo q2.length bc (bytV q2) rfl ho.none (by rw [a0u,Nat.mul_one]) ho.at.cells (a0x _) (by unfold maxLen;omega) (by omega) (by have:=s4.out.b.size;omega) ?_));intro co c1 w2 hown hgrow hco
  have S5:=uH (s4.out.appended hown hgrow hco)
  clear hown hgrow hco s4 ho
  have Hf:Hid (d0b w (e0x d) (.returned (.slice co (q1.length+q2.length) c1)) w2):=uH (by rw [e1,←lL];exact ⟨co,c1,rfl,S5.out.head,S5.out.b⟩)
  clear S5
  go_wp2_with fail
  have hR:=HR.out
  clear HR
  subst hR
  go_ret
  exact Hf.out
 have t6:(d.kind==6)=false:=by rw [beq_eq_false_iff_ne];exact k6
 ((refine a0a fun C HC=>?_);(go_wp2_with fail);(have hC:=HC.out);clear HC;subst hC;(refine wp_cond_false rfl ?_))
 have e1:e0x d=a0n d.data:=by unfold e0x opsB f0h;simp [k3,k4,k5,k6]
 (have hC:=HCT.out);clear HCT;subst hC
 obtain ⟨c0,c1,c2,c3,c4,c5,c6,c7,c8,c9,c10,c11,c12,c13,c14,c15,c16,c17,c18,c19,c20,c21,c22,c23,c24,c25,c26,c27,c28,c29,c30,c31,c32,c33,c34,c35,c36⟩:=a0r (show wa.heap[B]?=some (.cells (wdV d ms ds) 49 (0,0)) from (by rw [←HV.out];exact S.out.head))
 clear c0 c1 c2 c3 c4 c5 c6 c7 c8 c9 c10 c11 c12 c13 c14 c15 c16 c17 c18 c19 c20 c21 c22 c23 c24 c25 c26 c27 c28 c29 c30 c31 c32 c33 c34 c35
 rw [Hds.out] at c36
 go_wp2_with fail
 refine (d0l dl dc d.data wa (Hsl.out.grow S.out.b).n0 (Hsl.out.grow S.out.b).at_ (by have:=HL.out.data;omega)).mono ?_
 rintro e w2 ⟨zo,zk,rfl,ho2,hb2⟩
 have Hf:Hid (d0b w (e0x d) (.returned (.slice zo (a0n d.data).length zk)) w2):=uH (by rw [e1];exact ⟨zo,zk,rfl,b0a ho2 S.out.b.size,S.out.b.trans (hb2.mono S.out.b.size)⟩)
 clear ho2 hb2 S c36
 go_wp2_with fail
 (have hR:=HR.out);clear HR;subst hR
 go_ret
 exact Hf.out
def p0x (w:World) (d:Wd) (e:Ending) (w':World):Prop:=Below w.heap.size w w' ∧
 if mayW d=true then ∃ ao cap,e=.returned (.tuple #[.slice ao (encW d).length cap,aI aK 0])∧F.Sl w' ao cap (encW d)∧(∀ a,ao=some a→w.heap.size≤a.block) else e=.returned (.tuple #[.slice none 0 0,aI aK 1])
set_option maxHeartbeats 4000000 in
theorem w0f {d:Wd} {ms ds:Value} {V:Array Value} (hV:V=wdV d ms ds) (ao dl:Option Addr) (zc dc:Nat) (hms:ms=.slice ao d.mp.zs.length zc) (hds:ds=.slice dl d.data.length dc) (w:World) (hz:O.ZsAt w ao d.mp.zs) (hsl:F.Sl w dl dc d.data) (hl:Light d):Calls Tryz.prog 28 #[.agg V] w (p0x w d):=by
 have hs:V.size=37:=by rw [hV];rfl
 obtain ⟨i0,hii,hz0,hz1,hz2⟩:=info_parts c0h
 have HV:=uH hV
 have HL:=uH hl
 have Hmy:=uH (fun (w3:World) (hb:Below w.heap.size w w3)=>o0k hV ao dl zc dc hms hds w3 (hz.grow hb) (hsl.grow hb).at_ hl.mp.n)
 rw [r0b] at Hmy
 have hcv:=b0y
 cases hm:mayW d with
 | false =>
  have Hm:=uH hm
  clear hV hz hsl hms hds hl hm
  go_enter Tryz.func28,Tryz.ntmps28
  refine a0a fun C HC=>?_
  go_wp2_with fail
  refine a0d fun wa hwa=>?_
  obtain ⟨B,hB⟩:∃ B,B=w.heap.size:=⟨_,rfl⟩
  have S:Hid (St w wa [a0c B (.cells V 49 (0,0))]):=by rw [hwa];exact uH ((St.start w).objN _ B hB)
  rw [←hB]
  clear hwa hB
  ((have hC:=HC.out);clear HC;subst hC)
  refine wp_seq ?_
  refine wp_seq ?_
  refine wp_region_lit ?_
  (refine wpList_load_row rfl 49 _ rfl B rfl _ _ _ _ (S.out.head) Tryz.underlying49 rfl (by rw [hs];kernel_rfl) ?_)
  go_wp2_with fail
  refine (Hmy.out _ S.out.b).mono ?_
  rintro e w1 ⟨rfl,hb1⟩
  rw [Hm.out]
  have w1_b:=(S.out.grow hb1).b
  clear hb1 S
  go_wp2_with fail
  go_ret2
  refine ⟨w1_b,?_⟩
  rw [if_neg (by rw [Hm.out];simp)]
  rfl
 | true =>
  have Hm:=uH hm
  have Hmo:=uH (fun (w3:World) (hb:Below w.heap.size w w3)=>w0a hV ao dl zc dc hms hds w3 (hz.grow hb) (hsl.grow hb) hl hm)
  have hml:=p0b hm hl
  clear hV hz hsl hms hds hl hm
  obtain ⟨q1,hq1⟩:∃ q,q=j0b d:=⟨_,rfl⟩
  obtain ⟨q2,hq2⟩:∃ q,q=encS d.sf:=⟨_,rfl⟩
  obtain ⟨q3,hq3⟩:∃ q,q=encS d.st:=⟨_,rfl⟩
  obtain ⟨q4,hq4⟩:∃ q,q=e0x d:=⟨_,rfl⟩
  have l1:q1.length≤80:=by rw [hq1];exact f0e d
  have l2:q2.length≤2010:=by rw [hq2];have:=a0t d.sf;have:=HL.out.sf;omega
  have l3:q3.length≤2010:=by rw [hq3];have:=a0t d.st;have:=HL.out.st;omega
  have l4:q4.length≤140000:=by rw [hq4];exact hml
  have HX:Hid (encW d=F.d0w (q1++q2++q3++q4)):=by unfold encW;rw [hq1,hq2,hq3,hq4,wdB_more];exact uH rfl
  have hst2:=fun w3 gg cp (ha:BAt w3 (some ⟨gg,0,none⟩) d.sf.data.toList)=>c0l d.sf gg cp w3 ha (by rw [Array.length_toList];exact Nat.le_trans HL.out.sf (by decide))
  have hst3:=fun w3 gg cp (ha:BAt w3 (some ⟨gg,0,none⟩) d.st.data.toList)=>c0l d.st gg cp w3 ha (by rw [Array.length_toList];exact Nat.le_trans HL.out.st (by decide))
  rw [←hq2] at hst2
  rw [←hq3] at hst3
  rw [←hq4] at Hmo
  have H1:=uH hq1
  have H2:=uH hst2
  have H3:=uH hst3
  clear hq1 hq2 hq3 hq4 hst2 hst3 hml
  go_enter Tryz.func28,Tryz.ntmps28
  refine a0a fun C HC=>?_
  go_wp2_with fail
  refine a0d fun wa hwa=>?_
  obtain ⟨B,hB⟩:∃ B,B=w.heap.size:=⟨_,rfl⟩
  have S:Hid (St w wa [a0c B (.cells V 49 (0,0))]):=by rw [hwa];exact uH ((St.start w).objN _ B hB)
  rw [←hB]
  clear hwa hB
  ((have hC:=HC.out);clear HC;subst hC)
  refine a0a fun C HC=>?_
  refine wp_seq ?_
  refine wp_seq ?_
  refine wp_region_lit ?_
  (refine wpList_load_row rfl 49 _ rfl B rfl _ _ _ _ (S.out.head) Tryz.underlying49 rfl (by rw [hs];kernel_rfl) ?_)
  go_wp2_with fail
  refine (Hmy.out _ S.out.b).mono ?_
  rintro e w1 ⟨rfl,hb1⟩
  rw [Hm.out]
  have S:=uH (S.out.grow hb1)
  clear hb1
  go_wp2_with fail
  ((have hC:=HC.out);clear HC;subst hC)
  refine a0a fun C HC=>?_
  obtain ⟨c0,c1,c2,c3,c4,c5,c6,c7,c8,c9,c10,c11,c12,c13,c14,c15,c16,c17,c18,c19,c20,c21,c22,c23,c24,c25,c26,c27,c28,c29,c30,c31,c32,c33,c34,c35,c36⟩:=a0r (show w1.heap[B]?=some (.cells (wdV d ms ds) 49 (0,0)) from (by rw [←HV.out];exact S.out.head))
  have sB:=(S.out.a0b 0 rfl).1
  clear c8 c9 c10 c11 c12 c13 c14 c15 c16 c17 c18 c19 c20 c21 c22 c23 c24 c25 c26 c27 c28 c29 c30 c31 c32 c33 c34 c35 c36
  go_wp2_with fail
  clear c0 c1 c2 c3 c4 c5 c6 c7 sB
  refine (f0n [d.kind,d.zone,d.epoch,d.index,d.size,d.off,d.host,d.err] w1 w1.heap.size 8 _ rfl rfl rfl (by simp) q1 H1.out.symm).mono ?_
  rintro e w2 ⟨no,nc,rfl,ho,hb⟩
  have S:Hid (St w w2 (f0g w.heap.size no nc q1::[a0c B (.cells V 49 (0,0))])):=uH (S.out.new hb (f0g w.heap.size no nc q1) (b0a ho S.out.b.size) (fun x hx=>by
   obtain ⟨a,rfl,rfl⟩:=hx
   exact (d0a ho a.block rfl).2))
  clear ho hb
  go_wp2_with fail
  ((have hC:=HC.out);clear HC;subst hC)
  refine a0a fun C HC=>?_
  obtain ⟨c0,c1,c2,c3,c4,c5,c6,c7,c8,c9,c10,c11,c12,c13,c14,c15,c16,c17,c18,c19,c20,c21,c22,c23,c24,c25,c26,c27,c28,c29,c30,c31,c32,c33,c34,c35,c36⟩:=a0r (show w2.heap[B]?=some (.cells (wdV d ms ds) 49 (0,0)) from (by rw [←HV.out];exact (S.out.pull (A:=[_])).head))
  have sB:=(S.out.a0b 1 rfl).1
  clear c0 c1 c2 c3 c4 c5 c6 c7 c9 c10 c11 c12 c13 c14 c15 c16 c17 c18 c19 c20 c21 c22 c23 c24 c25 c26 c27 c28 c29 c30 c31 c32 c33 c34 c35 c36
  go_wp2_with fail
  clear c8 sB
  refine (H2.out _ _ _ (b0k _ _)).mono ?_
  rintro e w1 ⟨bo,bc,rfl,ho,hb⟩
  have s4:=uH (S.out.grow ((bytesWorld_below _ _).trans (hb.mono (by rw [a0g];omega))))
  clear hb S
  go_wp2_with (at_builtin;go_must (refine a0h _ rfl (.tmp 26) (.tmp 31) 47 rfl w.heap.size 5 i0 (aI .u8 0) 1 1 Tryz.underlying47 hii hz0 hz1 hz2 rfl (by decide) _ q1.length _ (bytV q1) rfl s4.out.head bo q2.length bc (bytV q2) rfl ho.none (by rw [a0u,Nat.mul_one]) ho.at.cells (a0x _) (by unfold maxLen;omega) (by omega) (by have:=s4.out.b.size;omega) ?_));intro co c1 w2 hown hgrow hco
  obtain ⟨x2,hx⟩:∃ c,c=q1++q2:=⟨_,rfl⟩
  have x2l:x2.length≤2090:=by rw [hx,lL];omega
  rw [←hx] at HX
  rw [←lL,←hx]
  have S:Hid (St w w2 (f0g w.heap.size co c1 x2::[a0c B (.cells V 49 (0,0))])):=by rw [hx];exact uH (s4.out.appended hown hgrow hco)
  clear hown hgrow hco s4 ho hx
  go_wp2_with fail
  ((have hC:=HC.out);clear HC;subst hC)
  refine a0a fun C HC=>?_
  obtain ⟨c0,c1,c2,c3,c4,c5,c6,c7,c8,c9,c10,c11,c12,c13,c14,c15,c16,c17,c18,c19,c20,c21,c22,c23,c24,c25,c26,c27,c28,c29,c30,c31,c32,c33,c34,c35,c36⟩:=a0r (show w2.heap[B]?=some (.cells (wdV d ms ds) 49 (0,0)) from (by rw [←HV.out];exact (S.out.pull (A:=[_])).head))
  have sB:=(S.out.a0b 1 rfl).1
  clear c0 c1 c2 c3 c4 c5 c6 c7 c8 c10 c11 c12 c13 c14 c15 c16 c17 c18 c19 c20 c21 c22 c23 c24 c25 c26 c27 c28 c29 c30 c31 c32 c33 c34 c35 c36
  go_wp2_with fail
  clear c9 sB
  refine (H3.out _ _ _ (b0k _ _)).mono ?_
  rintro e w1 ⟨bo,bc,rfl,ho,hb⟩
  have s4:=uH (S.out.grow ((bytesWorld_below _ _).trans (hb.mono (by rw [a0g];omega))))
  clear hb S
  go_wp2_with (at_builtin;go_must (refine a0h _ rfl (.tmp 33) (.tmp 38) 47 rfl w.heap.size 5 i0 (aI .u8 0) 1 1 Tryz.underlying47 hii hz0 hz1 hz2 rfl (by decide) _ x2.length _ (bytV x2) rfl s4.out.head bo q3.length bc (bytV q3) rfl ho.none (by rw [a0u,Nat.mul_one]) ho.at.cells (a0x _) (by unfold maxLen;omega) (by omega) (by have:=s4.out.b.size;omega) ?_));intro co c1 w2 hown hgrow hco
  obtain ⟨x3,hx⟩:∃ c,c=x2++q3:=⟨_,rfl⟩
  have x3l:x3.length≤4100:=by rw [hx,lL];omega
  rw [←hx] at HX
  rw [←lL,←hx]
  have S:Hid (St w w2 (f0g w.heap.size co c1 x3::[a0c B (.cells V 49 (0,0))])):=by rw [hx];exact uH (s4.out.appended hown hgrow hco)
  clear hown hgrow hco s4 ho hx
  go_wp2_with fail
  ((have hC:=HC.out);clear HC;subst hC)
  refine wp_seq ?_
  refine wp_region_lit ?_
  refine a0s 1 fun L HL2=>?_
  simp only [List.take_succ_cons,List.take_zero,List.cons_append,List.nil_append]
  go_wp2_with fail
  (have hL:=HL2.out);clear HL2;subst hL
  simp only [List.drop_succ_cons,List.drop_zero]
  (refine wpList_load_row rfl 49 _ rfl B rfl _ _ _ _ ((S.out.pull (A:=[_])).head) Tryz.underlying49 rfl (by rw [hs];kernel_rfl) ?_)
  go_wp2_with fail
  refine (Hmo.out _ S.out.b).mono ?_
  rintro e w1 ⟨bo,bc,rfl,ho,hb⟩
  have s4:=uH (S.out.grow hb)
  clear hb S
  go_wp2_with (at_builtin;go_must (refine a0h _ rfl (.tmp 40) (.tmp 42) 47 rfl w.heap.size 5 i0 (aI .u8 0) 1 1 Tryz.underlying47 hii hz0 hz1 hz2 rfl (by decide) _ x3.length _ (bytV x3) rfl s4.out.head bo q4.length bc (bytV q4) rfl ho.none (by rw [a0u,Nat.mul_one]) ho.at.cells (a0x _) (by unfold maxLen;omega) (by omega) (by have:=s4.out.b.size;omega) ?_));intro co c1 w2 hown hgrow hco
  obtain ⟨x4,hx⟩:∃ c,c=x3++q4:=⟨_,rfl⟩
  have x4l:x4.length≤150000:=by rw [hx,lL];omega
  rw [←hx] at HX
  rw [←lL,←hx]
  have S:Hid (St w w2 (f0g w.heap.size co c1 x4::[a0c B (.cells V 49 (0,0))])):=by rw [hx];exact uH (s4.out.appended hown hgrow hco)
  clear hown hgrow hco s4 ho hx
  go_wp2_with fail
  refine (F.n0a co c1 x4 w2 S.out.head.sl (by omega)).mono ?_
  rintro e w3 ⟨fo,fc,rfl,ho,hb⟩
  have w3_b:=(S.out.grow hb).b
  have Ho:=uH ho.sl
  have Hof:=uH (fun (a:Addr) (ha:fo=some a)=>Nat.le_trans S.out.b.size (d0a ho a.block (by rw [ha];rfl)).2)
  clear ho hb S
  go_wp2_with fail
  go_ret2
  refine ⟨w3_b,?_⟩
  rw [if_pos Hm.out,HX.out]
  exact ⟨fo,fc,rfl,Ho.out,Hof.out⟩
end Go.Proofs.YtogamdaomdoapaaGreat
namespace Go.Proofs.YtogamdaomdoapaaGreat.G
open Go.Value renaming int→aI,string→aS,bool→aB
open Go.IntKind renaming i64→aK
open List renaming length_append→lL
open Go.Lib renaming hid→uH
set_option maxRecDepth 20000
open Go.RowKit
theorem i0g {w:World} {base:Nat} {ao:Option Addr} {cap:Nat} {A:List An} (h:(thA base ao cap A).T w):(ao=none→A=[]∧cap=0)∧∀ a,ao=some a→∃ g,a=⟨g,0,none⟩∧g<w.heap.size:=by
 have hr:=i0w h
 rcases hr.2 with ⟨hv,h0⟩ | ⟨g,c,cur,hv,hb,hh,-⟩
 ·simp only [Value.slice.injEq] at hv
  refine ⟨fun _=>⟨List.length_eq_zero_iff.1 hv.2.1,hv.2.2⟩,fun a ha=>?_⟩
  rw [hv.1] at ha
  cases ha
 ·simp only [Value.slice.injEq] at hv
  refine ⟨fun h0=>?_,fun a ha=>?_⟩
  ·rw [hv.1] at h0
   cases h0
  ·rw [hv.1] at ha
   obtain rfl:=Option.some.inj ha
   exact ⟨g,rfl,lt_of_block hh⟩
theorem row_news {w:World} {base g cap:Nat} {A:List An} (h:(thA base (some ⟨g,0,none⟩) cap A).T w) {b:World} (hb:Below w.heap.size w b):∀ ad,(some ⟨g,0,none⟩:Option Addr)=some ad→∀ j u,(anR A)[j]?=some u→b.cell? (ad.add j)=some u:=by
 intro ad e j u hu
 obtain rfl:=Option.some.inj e
 have hj:=(List.getElem?_eq_some_iff.1 hu).1
 rw [z0b] at hj
 obtain ⟨g',e',hl⟩:=(i0g h).2 _ rfl
 simp only [Addr.mk.injEq] at e'
 have hl':g<w.heap.size:=by rw [e'.1];exact hl
 have hadd:(⟨g,0,none⟩:Addr).add j=⟨g,j,none⟩:=by unfold Addr.add;split<;>simp_all
 rw [hadd,hb.cell (p:=⟨g,j,none⟩) hl',(i0w h).cellAt j hj,hu]
theorem anR_ones (A:List An):∀ u∈anR A,u.oneCell'=true:=by
 intro u hu
 unfold anR at hu
 obtain ⟨a,-,ha⟩:=List.mem_flatMap.1 hu
 exact r0m a u ha
theorem thA_weak {w:World} {base b2:Nat} {ao:Option Addr} {cap:Nat} {A:List An} (h:(thA base ao cap A).T w) (hb:b2≤base):(thA b2 ao cap A).T w:=by
 have h1:=i0w h
 refine ⟨h1.1,?_⟩
 rcases h1.2 with h2 | ⟨g,c,cur,h2,h3,r⟩
 ·exact .inl h2
 ·exact .inr ⟨g,c,cur,h2,Nat.le_trans hb h3,r⟩
set_option maxHeartbeats 2000000 in
theorem clone_g {base:Nat} {ao:Option Addr} {cap:Nat} {A:List An} {w:World} (h:(thA base ao cap A).T w) (hA:A.length≤1000):Calls Tryz.prog 29 #[.slice ao A.length cap] w fun e w'=>∃ co c2,e=.returned (.slice co A.length c2)∧(thA w.heap.size co c2 A).T w'∧Below w.heap.size w w':=by
 cases ao with
 | none =>
  obtain ⟨rfl,rfl⟩:=(i0g h).1 rfl
  have heq:=fun w=>Lib.run_eql_slice_nil (P:=Tryz.prog) w 55 79 none 0 0 0 0 Tryz.underlying55
  rw [List.length_nil]
  go_enter Tryz.func29,Tryz.ntmps29
  go_wp2_with fail
  go_ret
  exact ⟨none,0,rfl,⟨by simp [anR],.inl ⟨rfl,rfl⟩⟩,Below.refl _ _⟩
 | some a =>
  obtain ⟨g,rfl,hg⟩:=(i0g h).2 a rfl
  have heq:=fun w=>Lib.run_eql_slice_nil (P:=Tryz.prog) w 55 79 (some ⟨g,0,none⟩) A.length cap 0 0 Tryz.underlying55
  obtain ⟨i0,hi0,hz0,hz1,hz2⟩:=info_parts y0y
  have Hnews:=uH (row_news h (b:=w.alloc (.cells #[] 79)) ((Below.refl _ _).alloc (Nat.le_refl _) _))
  clear h
  go_enter Tryz.func29,Tryz.ntmps29
  go_wp2_with (at_builtin;go_must (refine a0h _ rfl (.tmp 5) (.tmp 6) 55 rfl w.heap.size 79 i0 (.agg zz18) 18 176 Tryz.underlying55 hi0 hz0 hz1 hz2 rfl (by decide) _ 0 _ [] rfl (f0c _ w.heap.size rfl w.heap.size (Nat.le_refl _) 79 18) (some ⟨g,0,none⟩) A.length cap (anR A) rfl (fun h=>by cases h) (z0b A) Hnews.out (fun u hu=>anR_ones A u hu) (by unfold maxLen;omega) (by omega) (by simp) ?_))
  intro co c2 w1 hown hgrow hco
  have hb:Below w.heap.size w w1:=below_grown ((Below.refl _ _).alloc (Nat.le_refl _) _) (by simp) hgrow (fun k hk=>by simp [Value.ownBlock] at hk;omega)
  have hown2:(thA w.heap.size co c2 A).T w1:=by
   have h2:w1.ownsRow w.heap.size 79 18 (.slice co A.length c2) A.length (anR A):=by simpa using hown
   exact h2
  have Ho:=uH hown2
  clear hown hgrow hco hown2
  go_wp2_with fail
  go_ret
  exact ⟨co,c2,rfl,Ho.out,hb⟩
theorem y0x {W w:World} {L:List Th} {p:Nat} {g:Gt} {ao:Option Addr} {cap:Nat} {A:List An} (S0:St W w (thG p g (.slice ao A.length cap)::thA W.heap.size ao cap A::L)) (hA:A.length≤1000):Calls Tryz.prog 14 #[.pointer (some ⟨p,0,none⟩)] w fun e w'=>∃ co c2,e=.returned (.slice co A.length c2)∧St W w' (thA W.heap.size co c2 A::thG p g (.slice ao A.length cap)::thA W.heap.size ao cap A::L):=by
 have S:=uH S0
 have Hcl:=uH (clone_g (S0.pull (A:=[_])).head hA)
 have HWw:=uH S0.b.size
 clear S0
 have hp:=(S.out.a0b 0 rfl).1
 obtain ⟨c0,c1,c2,c3,c4,c5,c6,c7,c8,c9,c10,c11,c12,c13,c14,c15,c16,c17,c18⟩:=gbox (show w.heap[p]?=some (.cells (gtV g (.slice ao A.length cap)) 82 (0,0)) from S.out.head)
 clear c0 c1 c2 c3 c4 c5 c6 c7 c8 c9 c10 c11 c12 c13 c14 c15 c16 c17
 obtain ⟨n,hn⟩:∃ n,n=A.length:=⟨_,rfl⟩
 rw [←hn] at Hcl c18 ⊢
 have Hn:=uH hn
 clear hn
 go_enter Tryz.func14,Tryz.ntmps14
 go_wp2_with fail
 refine Hcl.out.mono ?_
 rintro e w1 ⟨co,c2,rfl,hT,hb⟩
 have S1:=uH (S.out.new hb (thA w.heap.size co c2 A) hT (fun x hx=>by
  obtain ⟨a,rfl,rfl⟩:=hx
  exact ((i0w hT).lt a.block rfl).1))
 clear hT hb S Hcl c18 hp
 go_wp2_with fail
 go_ret
 obtain rfl:=Hn.out
 refine ⟨co,c2,rfl,?_⟩
 have hW:=S1.out
 exact ⟨hW.b,thA_weak hW.head HWw.out,hW.t.2.1,hW.t.2.2⟩
theorem w0r {W w:World} {L:List Th} {p:Nat} {g:Gt} {av:Value} (S0:St W w (thG p g av::L)):Calls Tryz.prog 21 #[.pointer (some ⟨p,0,none⟩)] w fun e w'=>e=.returned (.tuple #[.agg #[aI aK g.op.kind,aI aK g.op.client,aI aK g.op.seq,aS g.op.key,aS g.op.who,aS g.op.tkey,aS g.op.twho,aI aK g.op.item,aI aK g.op.count,aI aK g.op.price,aB g.op.buy,aI aK g.op.id],aB g.pend])∧Below w.heap.size w w':=by
 have S:=uH S0
 clear S0
 have hp:=(S.out.a0b 0 rfl).1
 obtain ⟨c0,c1,c2,c3,c4,c5,c6,c7,c8,c9,c10,c11,c12,c13,c14,c15,c16,c17,c18⟩:=gbox (show w.heap[p]?=some (.cells (gtV g av) 82 (0,0)) from S.out.head)
 clear c0 c1 c2 c3 c4 c18
 go_enter Tryz.func21,Tryz.ntmps21
 go_wp2_with fail
 refine a0d fun wa hwa=>?_
 obtain ⟨R,hR⟩:∃ R,R=w.heap.size:=⟨_,rfl⟩
 have S1:Hid (St W wa (a0c R (.cells #[aI aK 0,aI aK 0,aI aK 0,aS ⟨#[]⟩,aS ⟨#[]⟩,aS ⟨#[]⟩,aS ⟨#[]⟩,aI aK 0,aI aK 0,aI aK 0,aB false,aI aK 0] 30 (0,0))::thG p g av::L)):=by rw [hwa];exact uH (S.out.objN _ R hR)
 have HR:=uH hR
 have hwb:Below w.heap.size w wa:=by rw [hwa];exact bg
 have hpR:p<R:=by rw [hR];exact hp
 rw [←hR]
 clear hwa hR S c5 c6 c7 c8 c9 c10 c11 c12 c13 c14 c15 c16 c17 hp
 obtain ⟨c0,c1,c2,c3,c4,c5,c6,c7,c8,c9,c10,c11,c12,c13,c14,c15,c16,c17,c18⟩:=gbox (show wa.heap[p]?=some (.cells (gtV g av) 82 (0,0)) from (S1.out.pull (A:=[_])).head)
 obtain ⟨rl,rc,rf⟩:=S1.out.a0b 0 rfl
 have hp:=(S1.out.a0b 1 rfl).1
 clear c0 c1 c2 c3 c4 c18
 have hne:¬R=p:=by omega
 have hne2:¬p=R:=by omega
 go_region
 all_goals
  go_wp2_with fail
  refine bodyPost_ret (v:=.tuple #[.agg #[aI aK g.op.kind,aI aK g.op.client,aI aK g.op.seq,aS g.op.key,aS g.op.who,aS g.op.tkey,aS g.op.twho,aI aK g.op.item,aI aK g.op.count,aI aK g.op.price,aB g.op.buy,aI aK g.op.id],aB g.pend]) (by simp only [results,Tryz.results21];go_simp) rfl ⟨rfl,?_⟩
  have hRw:=HR.out
  exact bg
def byG (d:Wd):List UInt8:=if mayW d=true then encW d else []
theorem w0e {w:World} {d:Wd} {e:Ending} {w':World} (h:p0x w d e w'):Below w.heap.size w w'∧∃ xo xc,e=.returned (.tuple #[.slice xo (byG d).length xc,aI aK (if mayW d=true then 0 else 1)])∧F.Sl w' xo xc (byG d)∧(∀ a,xo=some a→w.heap.size≤a.block):=by
 obtain ⟨hb,h⟩:=h
 refine ⟨hb,?_⟩
 unfold byG
 cases hm:mayW d with
 | true =>
  rw [if_pos hm] at h
  exact h
 | false =>
  rw [if_neg (by rw [hm];simp)] at h
  subst h
  exact ⟨none,0,rfl,d0p w',fun _ h=>(nomatch h)⟩
theorem v0m {w:World} {Q:Nat} {a b:Int} {s:Option Addr} {n k:Nat} {t:TypeId} {fr:Nat × Nat} (hq:w.heap[Q]?=some (.cells #[aI aK a,aI aK b,.slice s n k] t fr)) {ao:Option Addr} {c:Nat} {l:List UInt8} (h:F.Sl w ao c l):0<l.length→∀ a,ao=some a→a.block≠Q:=by
 intro hp a' ha he
 obtain ⟨g,o,e,hz,hr⟩:=h.at_ hp
 rw [ha] at e
 obtain rfl:=Option.some.inj e
 simp only at he
 subst he
 have h1:=hr 0 hp
 rw [cell_of_row w g _ _ _ _ hq] at h1
 have h2:=congrArg (Option.map isU8) h1
 rw [←Array.getElem?_toList,←List.getElem?_map,show (List.map isU8 (#[Value.int .i64 a,aI aK b,.slice s n k]:Array Value).toList)=List.replicate 3 false from rfl,List.getElem?_replicate] at h2
 split at h2<;>simp [isU8] at h2
set_option maxHeartbeats 4000000 in
theorem x0e {d:Wd} {V:Array Value} (hV:V=wdV d (.slice none d.mp.zs.length 0) (.slice none d.data.length 0)) (hmp:d.mp=mp0) (hda:d.data=[]) (hl:Light d) (f t:Int) (w:World):Calls Tryz.prog 12 #[aI aK f,aI aK t,.agg V] w fun e w'=>∃ xo xc,e=.returned (.agg #[aI aK f,aI aK t,.slice xo (byG d).length xc])∧Below w.heap.size w w'∧F.Sl w' xo xc (byG d)∧(∀ a,xo=some a→w.heap.size≤a.block):=by
 have hs:V.size=37:=by rw [hV];rfl
 have hre:=fun w=>(w0f hV none none 0 0 rfl rfl w (by rw [hmp];exact fun h=>absurd h (by decide)) (by rw [hda];exact d0p _) hl).mono (fun e w' h=>w0e h)
 obtain ⟨X,hX⟩:∃ X,X=byG d:=⟨_,rfl⟩
 obtain ⟨c,hc⟩:∃ c:Int,c=if mayW d=true then 0 else 1:=⟨_,rfl⟩
 rw [←hX,←hc] at hre
 rw [←hX]
 have Hre:=uH hre
 clear hre hX hc hmp hda hl hV
 go_enter Tryz.func12,Tryz.ntmps12
 refine a0a fun C HC=>?_
 go_wp2_with fail
 refine a0d fun wa hwa=>?_
 obtain ⟨B,hB⟩:∃ B,B=w.heap.size:=⟨_,rfl⟩
 have S:Hid (St w wa [a0c (B+1) (.cells #[aI aK 0,aI aK 0,.slice none 0 0] 52 (0,0)),a0c B (.cells V 49 (0,0))]):=by
  rw [hwa]
  exact uH (((St.start w).objN _ B hB).objN _ (B+1) (by rw [hB];simp))
 rw [←hB]
 clear hwa hB
 ((have hC:=HC.out);clear HC;subst hC)
 refine a0a fun C HC=>?_
 refine wp_seq ?_
 refine wp_region_lit ?_
 refine wpList_load_row rfl 49 _ rfl B rfl _ _ _ _ (S.out.pull (A:=[_])).head Tryz.underlying49 rfl (by rw [hs];kernel_rfl) ?_
 go_wp2_with fail
 refine (Hre.out wa).mono ?_
 rintro e w1 ⟨hb1,xo,xc,rfl,hx,hof⟩
 have Hof:=uH (fun (a:Addr) (ha:xo=some a)=>Nat.le_trans S.out.b.size (hof a ha))
 have S:=uH (S.out.grow hb1)
 have Hx:=uH hx
 clear hb1 hx hof Hre
 go_wp2_with fail
 ((have hC:=HC.out);clear HC;subst hC)
 have hap:=uH (v0m (S.out.head) Hx.out)
 obtain ⟨ml,mc,mf⟩:=S.out.a0b 0 rfl
 obtain ⟨n,hn⟩:∃ n,n=X.length:=⟨_,rfl⟩
 rw [←hn]
 have Hn:=uH hn
 clear hn
 go_wp2_with fail
 have S2:=((S.out.setObj 0 (aI aK f)).setObj 1 (aI aK t)).setObj 2 (.slice xo n xc)
 refine bodyPost_ret (v:=.agg #[aI aK f,aI aK t,.slice xo n xc]) (by simp only [results,Tryz.results12];go_simp) rfl ⟨xo,xc,by rw [Hn.out],S2.b,?_⟩
 exact ⟨k0m (k0m (k0m Hx.out hap.out) hap.out) hap.out,Hof.out⟩
theorem msg_any {d:Wd} {V:Array Value} (hV:V=wdV d (.slice none d.mp.zs.length 0) (.slice none d.data.length 0)) (hmp:d.mp=mp0) (hda:d.data=[]) (hl:Light d) (f t:Int) (w:World):Calls Tryz.prog 12 #[aI aK f,aI aK t,.agg V] w fun e w'=>∃ xo xc,e=.returned (.agg #[aI aK f,aI aK t,.slice xo (byG d).length xc])∧Below w.heap.size w w'∧F.Sl w' xo xc (byG d) :=
 (x0e hV hmp hda hl f t w).mono fun _ _ ⟨xo,xc,h1,h2,h3,_⟩=>⟨xo,xc,h1,h2,h3⟩
end Go.Proofs.YtogamdaomdoapaaGreat.G