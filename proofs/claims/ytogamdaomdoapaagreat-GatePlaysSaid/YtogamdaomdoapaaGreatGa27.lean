/- Texts put together: FrDec, WDp, WDb, WDq, WSz. -/
import Derived.Test.YtogamdaomdoapaaGreatGa24
import Derived.Test.YtogamdaomdoapaaGreatGa25
import Derived.Test.YtogamdaomdoapaaGreatGa26
import Derived.Laws.ResultCell
namespace Go.Proofs.YtogamdaomdoapaaGreat.F
open Go.Value renaming int→aI,string→aS,bool→aB
open Go.IntKind renaming i64→aK
open List renaming length_append→lL
open Bool renaming and_eq_true→bA
open Go.Lib renaming hid→uH
set_option maxRecDepth 20000
open Go.RowKit
def j0m (w:World) (r:List UInt8 × Nat × Nat) (e:Ending) (w':World):Prop:=∃ ao cap,e=.returned (.tuple #[.slice ao r.1.length cap,aI aK (r.2.1:Nat),aI aK (r.2.2:Nat)])∧OwnB w' w.heap.size ao cap r.1∧Below w.heap.size w w'
theorem c0z (w:World) (base:Nat):OwnB w base none 0 []:=⟨rfl,.inl ⟨rfl,rfl⟩⟩
theorem i0a {w:World} {b off:Nat} {l:List UInt8} (hb:b<w.heap.size) (h:BRow w b off l) (m k:Nat):BAt w (some ⟨b,off+m,none⟩) ((l.drop m).take k):=fun hp=>⟨b,off+m,rfl,hb,fun i hi=>by
 simp only [List.length_take,List.length_drop] at hi
 rw [Nat.add_assoc,h (m+i) (by omega)]
 simp only [List.getElem_take,List.getElem_drop]⟩
theorem u0l (ao:Option Addr) (cap:Nat) (l:List UInt8) (w:World) (h:BAt w ao l) (hl:4≤l.length) :
 Calls Tryz.prog 123 #[.slice ao l.length cap] w fun e w'=>e=.returned (.int .u32 (b0e l:Nat))∧Below w.heap.size w w' :=
 (qframe.j0q ao cap l w h hl).mono fun _ _ ⟨he,_,hw⟩=>⟨he,hw▸a0z (Below.refl _ _)⟩
set_option maxHeartbeats 4000000 in
theorem u0q (ao:Option Addr) (cap:Nat) (l:List UInt8) (w:World) (h:Sl w ao cap l) (hm:l.length≤140737488351232) :
 Calls Tryz.prog 79 #[.slice ao l.length cap] w (j0m w (decB l)):=by
 by_cases h8:(l.length:Int)<8
 ·have hd:decB l=([],0,2):=by unfold decB;rw [if_pos (by omega)]
  rw [hd]
  clear hd h
  go_enter Tryz.func79,Tryz.ntmps79
  go_wp2_with fail
  go_ret3
  exact ⟨none,0,rfl,c0z _ _,bg⟩
 obtain ⟨b,off,rfl,hb,hr⟩:=h.at_ (by omega)
 have hlc:=h.le
 have hcm:=h.cm
 have hul:=k0i l
 have HS:=uH h
 have Hr:=uH hr
 obtain ⟨u,hu⟩:∃ u,u=b0e l:=⟨_,rfl⟩
 rw [←hu] at hul
 have hfour:=qframe.j0q (some ⟨b,off,none⟩) cap l w h.at_ (by omega)
 rw [←hu] at hfour
 have Hfour:=uH hfour
 have hw8:BAt w (some ⟨b,off,none⟩) (l.take 8):=by have:=i0a hb hr 0 8;simpa using this
 have Hw8:=uH hw8
 have hl8:(l.take 8).length=8:=by rw [List.length_take];omega
 have hdec:decB l=if l.take 8≠b0x u then ([],0,4) else if 1048576<u then ([],0,5) else if l.length<12+u then ([],0,2) else if b0e (l.drop (8+u))≠sumOf (l.take (8+u)) then ([],0,4) else ((l.drop 8).take u,12+u,0):=by
  unfold decB;rw [if_neg (by omega),←hu]
 have Hdec:=uH hdec
 have Hl8:=uH hl8
 clear hu hfour hr h hw8 hdec hl8
 have hc8:8≤cap:=by omega
 have hc8i:(8:Int)≤cap:=by omega
 go_enter Tryz.func79,Tryz.ntmps79
 go_wp2_with fail
 refine Hfour.out.mono ?_
 rintro e w1 ⟨rfl,dn,rfl⟩
 go_wp2_with fail
 refine a0d fun wa hwa=>?_
 have wab:Below w.heap.size w wa:=by rw [hwa];exact a0z (Below.refl _ _)
 clear hwa
 have was:=wab.size
 obtain ⟨z,hz⟩:∃ z,z=(l.take 8==b0x u):=⟨_,rfl⟩
 have he:∀ (W:World) (ho:Option Addr) (hc:Nat),BAt W (some ⟨b,off,none⟩) (l.take 8)→BAt W ho (b0x u)→Calls Tryz.prog 53 #[.slice (some ⟨b,off,none⟩) 8 cap,.slice ho (b0x u).length hc] W fun e w'=>e=.returned (aB z)∧W=w':=by
  intro W ho hc g1 g2
  have:=f0q (some ⟨b,off,none⟩) ho cap hc (l.take 8) (b0x u) W g1 g2
  rw [Hl8.out,←hz] at this
  exact this.mono fun _ _ ⟨a,b⟩=>⟨a,b.symm⟩
 have HE:=uH he
 have Hz:=uH hz
 clear he hz
 go_region_held3 (fun W=>Below wa.heap.size wa W∧∀ b o,b<wa.heap.size→W.cell? ⟨b,o,none⟩=wa.cell? ⟨b,o,none⟩) (first | exact v0i _ | exact v0h (by assumption) (by assumption)) (first
  | (go_at_call 120;refine (m0l u _ hul).mono ?_;rintro e y1 ⟨ho,hc,rfl,h1,b1⟩;have H1:=uH h1.sl;have C1:Below w.heap.size w y1:=wab.trans (((Below.refl wa.heap.size wa).drew.trans b1).mono wab.size);clear h1)
  | (go_at_call 53;refine (HE.out _ ho hc (Hw8.out.below C1) H1.out.at_).mono ?_;rintro e y2 ⟨rfl,rfl⟩;have b2:=Below.refl y1.heap.size y1))
 have hs1:=C1.size
 have HC1:=uH C1
 have HS1:=uH (HS.out.grow C1)
 clear C1 b1 b2 wab
 cases z with
 | false =>
  have hd:decB l=([],0,4):=by
   rw [Hdec.out,if_pos]
   intro e
   have:=Hz.out
   rw [e] at this
   simp at this
  have Hd:=uH hd
  clear hd
  go_wp2_with fail
  go_ret3
  rw [Hd.out]
  exact ⟨none,0,rfl,c0z _ _,HC1.out⟩
 | true =>
  have hq:l.take 8=b0x u:=by have:=Hz.out;simpa using this.symm
  have hd1:decB l=if 1048576<u then ([],0,5) else if l.length<12+u then ([],0,2) else if b0e (l.drop (8+u))≠sumOf (l.take (8+u)) then ([],0,4) else ((l.drop 8).take u,12+u,0):=by
   rw [Hdec.out,if_neg (by simpa using hq)]
  have Hd1:=uH hd1
  clear Hdec hd1 hq Hz HE
  by_cases hbig:(1048576:Int)<u
  ·have hd:decB l=([],0,5):=by rw [Hd1.out,if_pos (by omega)]
   have Hd:=uH hd
   clear hd
   go_wp2_with fail
   go_ret3
   rw [Hd.out]
   exact ⟨none,0,rfl,c0z _ _,HC1.out⟩
  by_cases hsh:(l.length:Int)<12+u
  ·have hd:decB l=([],0,2):=by rw [Hd1.out,if_neg (by omega),if_pos (by omega)]
   have Hd:=uH hd
   have hsh2:(l.length:Int) - 8 - 4<u:=by omega
   clear hd
   go_wp2_with fail
   go_ret3
   rw [Hd.out]
   exact ⟨none,0,rfl,c0z _ _,HC1.out⟩
  have hsh2:¬(l.length:Int) - 8 - 4<u:=by omega
  have hlt1:(l.take (8+u)).length=8+u:=by rw [List.length_take];omega
  have hld1:(l.drop (8+u)).length=l.length - (8+u):=List.length_drop
  have hb1:b<y1.heap.size:=by omega
  have hr1:BRow y1 b off l:=Hr.out.below hb HC1.out
  have hat1:BAt y1 (some ⟨b,off,none⟩) (l.take (8+u)):=by have:=i0a hb1 hr1 0 (8+u);simpa using this
  have hat2:BAt y1 (some ⟨b,off+(8+u),none⟩) (l.drop (8+u)):=by
   have:=i0a hb1 hr1 (8+u) (l.length - (8+u))
   rwa [List.take_of_length_le (by rw [List.length_drop];omega)] at this
  have hat3:BAt y1 (some ⟨b,off+8,none⟩) ((l.drop 8).take u):=i0a hb1 hr1 8 u
  have hl3:((l.drop 8).take u).length=u:=by rw [List.length_take,List.length_drop];omega
  have hf:=u0l (some ⟨b,off+(8+u),none⟩) (cap - (8+u)) (l.drop (8+u)) y1 hat2 (by rw [hld1];omega)
  obtain ⟨s,hs⟩:∃ s,s=b0e (l.drop (8+u)):=⟨_,rfl⟩
  obtain ⟨t,ht⟩:∃ t,t=sumOf (l.take (8+u)):=⟨_,rfl⟩
  rw [←hs,hld1] at hf
  have hd2:decB l=if s≠t then ([],0,4) else ((l.drop 8).take u,12+u,0):=by rw [Hd1.out,if_neg (by omega),if_neg (by omega),hs,ht]
  have hsum:∀ W,Below y1.heap.size y1 W→Calls Tryz.prog 122 #[.slice (some ⟨W.heap.size,0,none⟩) 1 1] (W.alloc (.cells #[.slice (some ⟨b,off,none⟩) (8+u:Nat) cap] 47)) fun e w'=>e=.returned (.int .u32 (t:Nat))∧w'=W.alloc (.cells #[.slice (some ⟨b,off,none⟩) (8+u:Nat) cap] 47):=by
   intro W hW
   have:=p0z (c:=cap) (⟨by rw [hlt1];omega,hcm,fun h=>(nomatch h),hat1.below hW⟩:Sl W (some ⟨b,off,none⟩) cap (l.take (8+u))) 47 _ rfl
   rw [hlt1,←ht] at this
   exact this
  have hclone:∀ W,Below y1.heap.size y1 W→Calls Tryz.prog 80 #[.slice (some ⟨b,off+8,none⟩) u (cap - 8)] W fun e w'=>∃ ao cap,e=.returned (.slice ao u cap)∧OwnB w' W.heap.size ao cap ((l.drop 8).take u)∧Below W.heap.size W w':=by
   intro W hW
   have:=i0q (some ⟨b,off+8,none⟩) (cap - 8) ((l.drop 8).take u) W (fun h=>(nomatch h)) (hat3.below hW) (by rw [hl3];omega)
   unfold d0b at this
   rw [hl3] at this
   exact this
  have Hf:=uH hf
  have Hsum:=uH hsum
  have Hclone:=uH hclone
  have Hd2:=uH hd2
  have Hl3:=uH hl3
  clear hlt1 hld1 hr1 hat1 hat2 hat3 hf hs ht hd2 hsum hclone Hd1 hl3
  have hk1:8+u≤cap:=by omega
  have hk2:(8:Int)+u≤cap:=by omega
  have hk3:8+u≤l.length:=by omega
  go_wp2_with fail
  refine Hf.out.mono ?_
  rintro e y2 ⟨rfl,b2⟩
  have Y2:=uH b2
  have s2:=b2.size
  clear b2 Hf
  go_wp2_with fail
  refine (Hsum.out _ Y2.out).mono ?_
  rintro e y3 ⟨rfl,rfl⟩
  have Y3:=uH (Y2.out.trans ((b0s y2 (.cells #[.slice (some ⟨b,off,none⟩) (8+u:Nat) cap] 47)).mono s2))
  by_cases hst:s=t
  ·subst hst
   have hd:decB l=((l.drop 8).take u,12+u,0):=by rw [Hd2.out,if_neg (by simp)]
   have Hd:=uH hd
   clear hd Hd2
   go_wp2_with fail
   refine (Hclone.out _ Y3.out).mono ?_
   rintro e y4 ⟨ro,rc,rfl,ho,hb4⟩
   have HO:=uH ho
   have HB:=uH (HC1.out.trans ((Y3.out.trans (hb4.mono (by have:=Y3.out.size;omega))).mono hs1))
   have hbase:w.heap.size≤(y2.alloc (.cells #[.slice (some ⟨b,off,none⟩) (8+u:Nat) cap] 47)).heap.size:=by have:=Y3.out.size;omega
   have HO2:=uH (b0a ho hbase)
   clear ho hb4 hbase HO
   go_wp2_with fail
   go_ret3
   rw [Hd.out]
   exact ⟨ro,rc,(show Ending.returned (.tuple #[.slice ro u rc,aI aK (8+(u:Int)+4),aI aK 0])=_ from by rw [show (8+(u:Int)+4)=((12+u:Nat):Int) from by omega];simp only [Hl3.out];rfl),HO2.out,HB.out⟩
  ·have hd:decB l=([],0,4):=by rw [Hd2.out,if_pos hst]
   have Hd:=uH hd
   have hne:((s:Int) != t)=true:=by simp;omega
   clear hd Hd2
   go_wp2_with fail
   go_ret3
   rw [Hd.out]
   exact ⟨none,0,rfl,c0z _ _,HC1.out.trans (Y3.out.mono hs1)⟩
def oneB (l:List UInt8):List UInt8 × Nat:=if (decB l).2.2=0∧(decB l).2.1≠l.length then ([],3) else ((decB l).1,(decB l).2.2)
def j0j (w:World) (r:List UInt8 × Nat) (e:Ending) (w':World):Prop:=∃ ao cap,e=.returned (.tuple #[.slice ao r.1.length cap,aI aK (r.2:Nat)])∧OwnB w' w.heap.size ao cap r.1∧Below w.heap.size w w'
theorem n0f (ao:Option Addr) (cap:Nat) (l:List UInt8) (w:World) (h:Sl w ao cap l) (hm:l.length≤140737488351232) :
 Calls Tryz.prog 47 #[.slice ao l.length cap] w (j0j w (oneB l)):=by
 have H:=uH (u0q ao cap l w h hm)
 obtain ⟨d,n,c,hd⟩:∃ d n c,decB l=(d,n,c):=⟨_,_,_,rfl⟩
 have h1:oneB l=if c=0∧n≠l.length then ([],3) else (d,c):=by unfold oneB;rw [hd]
 have H1:=uH h1
 rw [hd] at H
 clear h h1 hd
 by_cases hc:c=0
 ·subst hc
  by_cases hn:n=l.length
  all_goals
   (first | (have hb:((n:Int) != l.length)=false:=by simp;omega) | (have hb:((n:Int) != l.length)=true:=by simp;omega))
   have Hn:=uH hn
   clear hn
   go_enter Tryz.func47,Tryz.ntmps47
   go_wp2_with fail
   refine H.out.mono ?_
   rintro e w1 ⟨ro,rc,rfl,ho,hb1⟩
   have HO:=uH ho
   have HB:=uH hb1
   clear ho hb1
   simp only
   go_wp2_with fail
   go_ret2
  ·rw [H1.out,if_neg (by simp [Hn.out])]
   exact ⟨ro,rc,by first | rfl | trivial,HO.out,HB.out⟩
  ·rw [H1.out,if_pos ⟨by first | rfl | trivial,Hn.out⟩]
   exact ⟨none,0,by first | rfl | trivial,c0z _ _,HB.out⟩
 ·have hc0:((c:Int)==0)=false:=by rw [beq_eq_false_iff_ne];omega
  go_enter Tryz.func47,Tryz.ntmps47
  go_wp2_with fail
  refine H.out.mono ?_
  rintro e w1 ⟨ro,rc,rfl,ho,hb1⟩
  have HO:=uH ho
  have HB:=uH hb1
  clear ho hb1
  simp only
  go_wp2_with fail
  go_ret2
  rw [H1.out,if_neg (by simp [hc])]
  exact ⟨ro,rc,by first | rfl | trivial,HO.out,HB.out⟩
end Go.Proofs.YtogamdaomdoapaaGreat.F
namespace Go.Proofs.YtogamdaomdoapaaGreat
open Go.Value renaming int→aI,string→aS,bool→aB
open Go.IntKind renaming i64→aK
open List renaming length_append→lL
open Bool renaming and_eq_true→bA
open Go.Lib renaming hid→uH
open Go.RowKit
def dE (p:List UInt8):List UInt8 × Bool:=rdSt p false 8
def dF (p:List UInt8):List UInt8 × List UInt8 × Bool:=a0q (dE p).1 (dE p).2
def dG (p:List UInt8):List UInt8 × List UInt8 × Bool:=a0q (dF p).2.1 (dF p).2.2
def dK (p:List UInt8):Int:=(a0j p false 0:Nat)
def dS (p:List UInt8):List UInt8 × Bool:=if dK p=6 then rdSt (dG p).2.1 (dG p).2.2 3 else (dG p).2
def dR (p:List UInt8):List UInt8 × List UInt8 × Bool:=a0q (dS p).1 (dS p).2
def i0c (p:List UInt8):Bool:=!(dR p).2.2&&(dR p).2.1.isEmpty
def opD (p:List UInt8):Rq:=if dK p=6 then { rq0 with kind:=(a0j (dG p).2.1 (dG p).2.2 0:Nat),client:=(a0j (dG p).2.1 (dG p).2.2 1:Nat),seq:=(a0j (dG p).2.1 (dG p).2.2 2:Nat) } else rq0
def j0i (p:List UInt8):Wd:=⟨dK p,(a0j p false 1:Nat),(a0j p false 2:Nat),(a0j p false 3:Nat),(a0j p false 4:Nat),(a0j p false 5:Nat),(a0j p false 6:Nat),(a0j p false 7:Nat),⟨(dF p).1.toArray⟩,⟨(dG p).1.toArray⟩,opD p,zRp,mp0,ch0,[]⟩
def b0p (k:Int) (r:List UInt8):Bool:=if k=3 then O.e0f r else if k=4 then O.f0w r else if k=5 then goodD r else if k=6 then e0m r else true
def c0j (d:Wd) (r:List UInt8):Wd :=
 if d.kind=3 then { d with mp:=(O.decM r).1 } else if d.kind=4 then { d with ch:=(O.decC r).1 } else if d.kind=5 then { d with op:=dqQ (decD r) } else if d.kind=6 then { d with rep:=rpOf r } else { d with data:=r }
def wdOf (p:List UInt8):Wd:=c0j (j0i p) (dR p).1
theorem three_at {r:List UInt8} {b:Bool} {s:O.Rs} (hs:s=rdSt r b 3) (h:s.2=false):b=false∧r=encN (a0l (a0j r b 0))++(encN (a0l (a0j r b 1))++(encN (a0l (a0j r b 2))++s.1)):=by
 subst hs
 obtain ⟨a2,b2⟩:=O.b0i (k:=2) h
 obtain ⟨a1,b1⟩:=O.b0i (k:=1) a2
 obtain ⟨a0,b0⟩:=O.b0i (k:=0) a1
 refine ⟨a0,?_⟩
 rw [←b2,←b1]
 exact b0
theorem eight_at {r:List UInt8} {b:Bool} {s:O.Rs} (hs:s=rdSt r b 8) (h:s.2=false):b=false∧r=encN (a0l (a0j r b 0))++(encN (a0l (a0j r b 1))++(encN (a0l (a0j r b 2))++(encN (a0l (a0j r b 3))++(encN (a0l (a0j r b 4))++(encN (a0l (a0j r b 5))++(encN (a0l (a0j r b 6))++(encN (a0l (a0j r b 7))++s.1))))))):=by
 subst hs
 obtain ⟨a7,b7⟩:=O.b0i (k:=7) h
 obtain ⟨a6,b6⟩:=O.b0i (k:=6) a7
 obtain ⟨a5,b5⟩:=O.b0i (k:=5) a6
 obtain ⟨a4,b4⟩:=O.b0i (k:=4) a5
 obtain ⟨a3,b3⟩:=O.b0i (k:=3) a4
 obtain ⟨a2,b2⟩:=O.b0i (k:=2) a3
 obtain ⟨a1,b1⟩:=O.b0i (k:=1) a2
 obtain ⟨a0,b0⟩:=O.b0i (k:=0) a1
 refine ⟨a0,?_⟩
 rw [←b7,←b6,←b5,←b4,←b3,←b2,←b1]
 exact b0
theorem u0r {l:List UInt8} (h:O.h0n (O.decC l).2=true):O.encC (O.decC l).1=l:=by
 unfold O.h0n O.decC at h
 simp only [bA,Bool.not_eq_true',List.isEmpty_iff] at h
 obtain ⟨h1,h2⟩:=h
 obtain ⟨t,f⟩:=O.h0p (s:=rdSt l false 4) (t:=O.kc l) rfl h1
 rw [h2,List.append_nil] at f
 obtain ⟨-,e⟩:=O.j0g (r:=l) (b:=false) (s:=rdSt l false 4) rfl t
 unfold O.encC O.decC
 simp only [O.d0y,O.e0o,List.append_nil,O.k0d,List.append_assoc]
 rw [f] at e
 exact e.symm
theorem t0r {l:List UInt8} (h:v0c l=true):encP (rpOf l)=l:=by
 unfold v0c at h
 simp only [bA,Bool.not_eq_true',List.isEmpty_iff] at h
 obtain ⟨h6,hr⟩:=h
 obtain ⟨h5,e5⟩:=O.b0i (k:=5) h6
 obtain ⟨h4,e4⟩:=O.b0i (k:=4) h5
 obtain ⟨h3,e3⟩:=O.b0i (k:=3) h4
 obtain ⟨h2,e2⟩:=O.b0i (k:=2) h3
 obtain ⟨h1,e1⟩:=O.b0i (k:=1) h2
 obtain ⟨-,e0⟩:=O.b0i (k:=0) h1
 rw [encP_eq]
 rw [hr] at e5
 unfold rpOf
 simp only
 rw [←e5,←e4,←e3,←e2,←e1,←e0]
 rfl
theorem q0t {l:List UInt8} (h:goodD l=true):encO (dqQ (decD l))=l:=by
 unfold goodD at h
 simp only [bA,decide_eq_true_eq] at h
 obtain ⟨b1,b2,b3,b4,b5,b6,-,b8⟩:=y0k l
 rw [y0i b1 b2 b3 b4 b5 b6 h.1.2 b8]
 exact (p0q h.1.1).symm
theorem t0s {d:Wd} {r:List UInt8} (hr:b0p d.kind r=true):f0h (c0j d r)=r:=by
 have hk:(c0j d r).kind=d.kind:=by unfold c0j;(repeat' split)<;>rfl
 unfold f0h
 rw [hk]
 unfold b0p at hr
 unfold c0j
 by_cases k3:d.kind=3
 ·rw [if_pos k3] at hr ⊢
  rw [if_pos k3]
  unfold O.e0f at hr
  rw [bA] at hr
  exact O.l0n hr.1
 rw [if_neg k3] at hr ⊢
 rw [if_neg k3]
 by_cases k4:d.kind=4
 ·rw [if_pos k4] at hr ⊢
  rw [if_pos k4]
  unfold O.f0w at hr
  rw [bA] at hr
  exact u0r hr.1
 rw [if_neg k4] at hr ⊢
 rw [if_neg k4]
 by_cases k5:d.kind=5
 ·rw [if_pos k5] at hr ⊢
  rw [if_pos k5]
  exact q0t hr
 rw [if_neg k5] at hr ⊢
 rw [if_neg k5]
 by_cases k6:d.kind=6
 ·rw [if_pos k6] at hr ⊢
  rw [if_pos k6]
  unfold e0m at hr
  rw [bA] at hr
  exact t0r hr.1
 rw [if_neg k6,if_neg k6]
theorem wd_back {p:List UInt8} (hw:i0c p=true) (hr:b0p (dK p) (dR p).1=true):wdB (wdOf p)=p:=by
 unfold i0c at hw
 simp only [bA,Bool.not_eq_true',List.isEmpty_iff] at hw
 obtain ⟨w1,w2⟩:=hw
 obtain ⟨s1,s2⟩:=O.h0p (s:=dS p) (t:=dR p) rfl w1
 rw [w2,List.append_nil] at s2
 have hG:(dG p).2.2=false∧(dG p).2.1=(if dK p=6 then encs [((a0j (dG p).2.1 (dG p).2.2 0:Nat):Int),((a0j (dG p).2.1 (dG p).2.2 1:Nat):Int),((a0j (dG p).2.1 (dG p).2.2 2:Nat):Int)] else [])++a0n (dR p).1:=by
  unfold dS at s1 s2
  by_cases k6:dK p=6
  ·rw [if_pos k6] at s1 s2 ⊢
   obtain ⟨s,hs⟩:∃ s,s=rdSt (dG p).2.1 (dG p).2.2 3:=⟨_,rfl⟩
   rw [←hs] at s1 s2
   obtain ⟨e1,e2⟩:=three_at hs s1
   refine ⟨e1,?_⟩
   rw [s2] at e2
   simp only [O.d0y,O.e0o,List.append_nil,List.append_assoc]
   exact e2
  ·rw [if_neg k6] at s1 s2 ⊢
   exact ⟨s1,by rw [List.nil_append];exact s2⟩
 obtain ⟨g1,g2⟩:=hG
 obtain ⟨f1,f2⟩:=O.h0p (s:=(dF p).2) (t:=dG p) rfl g1
 obtain ⟨e1,e2⟩:=O.h0p (s:=dE p) (t:=dF p) rfl f1
 have hn:p=encs [dK p,((a0j p false 1:Nat):Int),((a0j p false 2:Nat):Int),((a0j p false 3:Nat):Int),((a0j p false 4:Nat):Int),((a0j p false 5:Nat):Int),((a0j p false 6:Nat):Int),((a0j p false 7:Nat):Int)]++(dE p).1:=by
  obtain ⟨-,e⟩:=eight_at (s:=dE p) rfl e1
  simp only [O.d0y,O.e0o,List.append_nil,List.append_assoc]
  exact e
 have hk:(j0i p).kind=dK p:=rfl
 have hrw:=t0s (d:=j0i p) (r:=(dR p).1) (by rw [hk];exact hr)
 have hop:∀ d:Wd,opsB d=if d.kind=6 then encs [d.op.kind,d.op.client,d.op.seq] else []:=fun _=>rfl
 have h1:j0b (wdOf p)=encs [dK p,((a0j p false 1:Nat):Int),((a0j p false 2:Nat):Int),((a0j p false 3:Nat):Int),((a0j p false 4:Nat):Int),((a0j p false 5:Nat):Int),((a0j p false 6:Nat):Int),((a0j p false 7:Nat):Int)]:=by
  unfold wdOf c0j;(repeat' split)<;>rfl
 have h2:encS (wdOf p).sf=a0n (dF p).1:=by
  have:(wdOf p).sf=O.txt (dF p).1:=by unfold wdOf c0j;(repeat' split)<;>rfl
  rw [this,O.k0d]
 have h3:encS (wdOf p).st=a0n (dG p).1:=by
  have:(wdOf p).st=O.txt (dG p).1:=by unfold wdOf c0j;(repeat' split)<;>rfl
  rw [this,O.k0d]
 have h4:opsB (wdOf p)=if dK p=6 then encs [((a0j (dG p).2.1 (dG p).2.2 0:Nat):Int),((a0j (dG p).2.1 (dG p).2.2 1:Nat):Int),((a0j (dG p).2.1 (dG p).2.2 2:Nat):Int)] else []:=by
  have hkk:(wdOf p).kind=dK p:=by unfold wdOf c0j;(repeat' split)<;>rfl
  rw [hop,hkk]
  by_cases k6:dK p=6
  ·rw [if_pos k6,if_pos k6]
   have:(wdOf p).op=opD p:=by
    unfold wdOf c0j
    rw [hk,k6]
    rfl
   rw [this]
   unfold opD
   rw [if_pos k6]
  ·rw [if_neg k6,if_neg k6]
 unfold wdB
 rw [h1,h2,h3,h4]
 have h5:f0h (wdOf p)=(dR p).1:=hrw
 rw [h5,List.append_assoc,←g2,List.append_assoc,List.append_assoc,←f2]
 conv=>rhs;rw [hn,e2]
theorem k0w {l:List UInt8} (h:(F.oneB l).2=0):l=F.d0w (F.oneB l).1∧(F.oneB l).1.length≤1048576:=by
 unfold F.oneB at h ⊢
 by_cases h1:l.length<8
 ·have e:F.decB l=([],0,2):=by unfold F.decB;rw [if_pos h1]
  rw [e] at h;simp at h
 by_cases h2:l.take 8≠F.b0x (F.b0e l)
 ·have e:F.decB l=([],0,4):=by unfold F.decB;rw [if_neg h1,if_pos h2]
  rw [e] at h;simp at h
 by_cases h3:1048576<F.b0e l
 ·have e:F.decB l=([],0,5):=by unfold F.decB;rw [if_neg h1,if_neg h2,if_pos h3]
  rw [e] at h;simp at h
 by_cases h4:l.length<12+F.b0e l
 ·have e:F.decB l=([],0,2):=by unfold F.decB;rw [if_neg h1,if_neg h2,if_neg h3,if_pos h4]
  rw [e] at h;simp at h
 by_cases h5:F.b0e (l.drop (8+F.b0e l))≠sumOf (l.take (8+F.b0e l))
 ·have e:F.decB l=([],0,4):=by unfold F.decB;rw [if_neg h1,if_neg h2,if_neg h3,if_neg h4,if_pos h5]
  rw [e] at h;simp at h
 have e:F.decB l=((l.drop 8).take (F.b0e l),12+F.b0e l,0):=by unfold F.decB;rw [if_neg h1,if_neg h2,if_neg h3,if_neg h4,if_neg h5]
 rw [e] at h ⊢
 simp only at h ⊢
 by_cases h6:12+F.b0e l≠l.length
 ·rw [if_pos ⟨trivial,h6⟩] at h;simp at h
 rw [if_neg (fun hh=>h6 hh.2)]
 have h2':l.take 8=F.b0x (F.b0e l):=Classical.byContradiction h2
 have h5':F.b0e (l.drop (8+F.b0e l))=sumOf (l.take (8+F.b0e l)):=Classical.byContradiction h5
 have h6':12+F.b0e l=l.length:=Classical.byContradiction h6
 obtain ⟨n,hn⟩:∃ n,n=F.b0e l:=⟨_,rfl⟩
 rw [←hn] at h2' h3 h5' h6' ⊢
 have hp:((l.drop 8).take n).length=n:=by rw [List.length_take,List.length_drop];omega
 refine ⟨?_,by rw [hp];omega⟩
 unfold F.d0w
 rw [hp]
 have e1:F.b0x n++(l.drop 8).take n=l.take (8+n):=by rw [←h2',←List.take_add]
 rw [e1,←h5',F.h0y (by rw [List.length_drop];omega)]
 have hd:(l.drop (8+n)).take 4=l.drop (8+n):=List.take_of_length_le (by rw [List.length_drop];omega)
 rw [hd,List.take_append_drop]
def j0f (p:List UInt8):Bool:=i0c p&&b0p (dK p) (dR p).1&&mayW (wdOf p)
theorem n0q {p:List UInt8} (h:j0f p=true):encW (wdOf p)=F.d0w p:=by
 unfold j0f at h
 simp only [bA] at h
 unfold encW
 rw [wd_back h.1.1 h.1.2]
set_option maxRecDepth 20000
open Go.RowKit
theorem b0h {P:Program} {fn:Func} {p u:Tmp} {ty:TypeId} (h:fn.results=#[.cell p ty,.tmp u]) (tmps:Array Value) (w:World) (g:Nat) (t:TypeId) (cs:Array Value) (fr:Nat × Nat) (d:TypeDesc)
 (hp:tmps.getD p undef=.pointer (some ⟨g,0,none⟩)) (hg:w.heap[g]?=some (.cells cs t fr))
 (hu:P.underlying ty=some d) (hd:(match d with | .struct _ | .array _ _=>true | _=>false)=true) (hi:(P.info? ty).map (·.size)=some cs.size) :
 (results fn tmps).run P w=.ok (.tuple #[.agg cs,tmps.getD u undef]) w:=by
 rw [results_cell_tmp h tmps P w,hp]
 simp only [asAddr,Sem.run_pure,Result.andThen_ok]
 rw [run_loadVar_row w g t ty cs fr d hg hu hd hi]
 simp only [Result.andThen_ok]
def zWd:Wd:=⟨0,0,0,0,0,0,0,0,e0,e0,rq0,zRp,mp0,ch0,[]⟩
theorem St.c0m {W w:World} {L:List Th} {b:Nat} {cur:Array Value} {t:TypeId} (h:St W w (a0c b (.cells cur t (0,0))::L)) (cs:Array Value):St W (w.setRow b cs) (a0c b (.cells cs t (0,0))::L) :=
 h.step (w':=w.setRow b cs) ⟨rfl,rfl,rfl,by simp,fun k _ hn=>setRow_other w b k cs (fun e=>hn e)⟩ _ (setRow_heap w b cur cs t (0,0) h.head) (fun _ hx=>.inl hx)
set_option maxHeartbeats 4000000 in
theorem r0c (ao:Option Addr) (cap:Nat) (l:List UInt8) (w:World) (h:F.Sl w ao cap l) (hm:l.length≤140737488351232) (c0:Nat) (hc0:c0=(F.oneB l).2) (hc:c0≠0) :
 Calls Tryz.prog 27 #[.slice ao l.length cap] w fun e w'=>e=.returned (.tuple #[.agg (wdV zWd (.slice none 0 0) (.slice none 0 0)),aI aK c0])∧Below w.heap.size w w':=by
 obtain ⟨n,hn⟩:∃ n,n=l.length:=⟨_,rfl⟩
 have Hone:=uH (fun (w3:World) (hb:Below w.heap.size w w3)=>F.n0f ao cap l w3 (h.grow hb) hm)
 unfold F.j0j at Hone
 obtain ⟨r,c,hr⟩:∃ r c,F.oneB l=(r,c):=⟨_,_,rfl⟩
 rw [hr] at Hone hc0
 rw [←hn] at Hone ⊢
 simp only at Hone hc0
 subst hc0
 have hcI:((c0:Int) != 0)=true:=by rw [bne_iff_ne];omega
 clear hr h hm hn
 go_enter Tryz.func27,Tryz.ntmps27
 refine d0m fun R HR=>?_
 refine a0a fun C HC=>?_
 go_wp2_with fail
 refine a0d fun wa hwa=>?_
 obtain ⟨B,hB⟩:∃ B,B=w.heap.size:=⟨_,rfl⟩
 have S:Hid (St w wa [a0c B (.cells #[aI aK 0,aI aK 0,aI aK 0,aI aK 0,aI aK 0,aI aK 0,aI aK 0,aI aK 0,aS ⟨#[]⟩,aS ⟨#[]⟩,aI aK 0,aI aK 0,aI aK 0,aS ⟨#[]⟩,aS ⟨#[]⟩,aS ⟨#[]⟩,aS ⟨#[]⟩,aI aK 0,aI aK 0,aI aK 0,aB false,aI aK 0,aI aK 0,aI aK 0,aI aK 0,aI aK 0,aI aK 0,aI aK 0,aI aK 0,aI aK 0,.slice none 0 0,aI aK 0,aI aK 0,aI aK 0,aI aK 0,aS ⟨#[]⟩,.slice none 0 0] 85 (0,0))]):=by rw [hwa];exact uH ((St.start w).objN _ B hB)
 rw [←hB]
 clear hwa hB
 (have hC:=HC.out);clear HC;subst hC
 refine a0a fun C HC=>?_
 go_wp2_with fail
 refine (Hone.out wa S.out.b).mono ?_
 rintro e w1 ⟨qo,qc,rfl,-,hb1⟩
 have S:=uH (S.out.grow hb1)
 clear hb1
 go_wp2_with fail
 (have hC:=HC.out);clear HC;subst hC
 refine wp_seq ?_
 refine a0a fun C HC=>?_
 go_wp2_with fail
 (have hC:=HC.out);clear HC;subst hC
 refine wp_cond_true rfl ?_
 refine wp_seq ?_
 refine wp_region_lit ?_
 refine a0s 2 fun L HL=>?_
 simp only [List.take_succ_cons,List.take_zero,List.cons_append,List.nil_append]
 go_wp2_with fail
 (have hL:=HL.out);clear HL;subst hL
 simp only [List.drop_succ_cons,List.drop_zero]
 refine wpList_store_row rfl 85 _ _ rfl B #[aI aK 0,aI aK 0,aI aK 0,aI aK 0,aI aK 0,aI aK 0,aI aK 0,aI aK 0,aS ⟨#[]⟩,aS ⟨#[]⟩,aI aK 0,aI aK 0,aI aK 0,aS ⟨#[]⟩,aS ⟨#[]⟩,aS ⟨#[]⟩,aS ⟨#[]⟩,aI aK 0,aI aK 0,aI aK 0,aB false,aI aK 0,aI aK 0,aI aK 0,aI aK 0,aI aK 0,aI aK 0,aI aK 0,aI aK 0,aI aK 0,.slice none 0 0,aI aK 0,aI aK 0,aI aK 0,aI aK 0,aS ⟨#[]⟩,.slice none 0 0] rfl rfl 85 _ S.out.head (by kernel_rfl) rfl (by simp [Value.oneCell']) ?_
 have S2:=uH (S.out.c0m #[aI aK 0,aI aK 0,aI aK 0,aI aK 0,aI aK 0,aI aK 0,aI aK 0,aI aK 0,aS ⟨#[]⟩,aS ⟨#[]⟩,aI aK 0,aI aK 0,aI aK 0,aS ⟨#[]⟩,aS ⟨#[]⟩,aS ⟨#[]⟩,aS ⟨#[]⟩,aI aK 0,aI aK 0,aI aK 0,aB false,aI aK 0,aI aK 0,aI aK 0,aI aK 0,aI aK 0,aI aK 0,aI aK 0,aI aK 0,aI aK 0,.slice none 0 0,aI aK 0,aI aK 0,aI aK 0,aI aK 0,aS ⟨#[]⟩,.slice none 0 0])
 clear S
 refine b0l fun w2 hw2=>?_
 rw [←hw2] at S2
 clear hw2
 go_wp2_with fail
 (have hR:=HR.out);clear HR;subst hR
 go_wp2_with fail
 refine bodyPost_ret (b0h rfl _ _ B 85 _ (0,0) _ rfl S2.out.head Tryz.underlying85 rfl (by kernel_rfl)) rfl ⟨rfl,S2.out.b⟩
open Go.RowKit
structure WIs (p:List UInt8) (k0 k1 k2 k3 k4 k5 k6 k7 m0 m1 m2:Nat) (e1:List UInt8) (b1:Bool) (sf e2:List UInt8) (b2:Bool) (st e3:List UInt8) (b3:Bool) (e4:List UInt8) (b4:Bool) (r e5:List UInt8) (b5:Bool):Prop where
 v0:k0=a0j p false 0
 v1:k1=a0j p false 1
 v2:k2=a0j p false 2
 v3:k3=a0j p false 3
 v4:k4=a0j p false 4
 v5:k5=a0j p false 5
 v6:k6=a0j p false 6
 v7:k7=a0j p false 7
 n0:m0=a0j e3 b3 0
 n1:m1=a0j e3 b3 1
 n2:m2=a0j e3 b3 2
 hE1:e1=(rdSt p false 8).1
 hE2:b1=(rdSt p false 8).2
 hF:a0q e1 b1=(sf,e2,b2)
 hG:a0q e2 b2=(st,e3,b3)
 hS1:k0=6→e4=(rdSt e3 b3 3).1
 hS2:k0=6→b4=(rdSt e3 b3 3).2
 hN1:k0≠6→e4=e3
 hN2:k0≠6→b4=b3
 hR:a0q e4 b4=(r,e5,b5)
 l1:e1.length≤p.length
 l2:e2.length≤p.length
 l3:e3.length≤p.length
 l4:e4.length≤p.length
 l5:e5.length≤p.length
 lr:r.length≤p.length
 lf:sf.length≤p.length
 lt:st.length≤p.length
 dr:(dR p).1=r
 dk:dK p=k0
 wh:i0c p=(!b5&&e5.isEmpty)
 base:j0i p=⟨k0,k1,k2,k3,k4,k5,k6,k7,⟨sf.toArray⟩,⟨st.toArray⟩,if (k0:Int)=6 then { rq0 with kind:=m0,client:=m1,seq:=m2 } else rq0,zRp,mp0,ch0,[]⟩
theorem t0n (t:List UInt8 × List UInt8 × Bool):t=(t.1,t.2.1,t.2.2):=rfl
theorem k0k {r x r':List UInt8} {b b':Bool} (h:a0q r b=(x,r',b')):x.length≤r.length∧r'.length≤r.length:=d0n h.symm
theorem wis (p:List UInt8):∃ k0 k1 k2 k3 k4 k5 k6 k7 m0 m1 m2 e1 b1 sf e2 b2 st e3 b3 e4 b4 r e5 b5,WIs p k0 k1 k2 k3 k4 k5 k6 k7 m0 m1 m2 e1 b1 sf e2 b2 st e3 b3 e4 b4 r e5 b5:=by
 have h1:=b0f p false 8
 have h2:=k0k (r:=(dE p).1) (b:=(dE p).2) (t0n (dF p))
 have h3:=k0k (r:=(dF p).2.1) (b:=(dF p).2.2) (t0n (dG p))
 have h4:(dS p).1.length≤(dG p).2.1.length:=by
  unfold dS
  split
  ·exact b0f _ _ _
  ·exact Nat.le_refl _
 have h5:=k0k (r:=(dS p).1) (b:=(dS p).2) (t0n (dR p))
 have he:(dE p).1=(rdSt p false 8).1:=rfl
 rw [←he] at h1
 have hk:(a0j p false 0=6)→dK p=6:=fun h=>by unfold dK;omega
 have hk2:(a0j p false 0≠6)→dK p≠6:=fun h=>by unfold dK;omega
 refine ⟨_,_,_,_,_,_,_,_,_,_,_,(dE p).1,(dE p).2,(dF p).1,(dF p).2.1,(dF p).2.2,(dG p).1,(dG p).2.1,(dG p).2.2,(dS p).1,(dS p).2,(dR p).1,(dR p).2.1,(dR p).2.2,
  ⟨rfl,rfl,rfl,rfl,rfl,rfl,rfl,rfl,rfl,rfl,rfl,rfl,rfl,t0n (dF p),t0n (dG p),fun h=>by unfold dS;rw [if_pos (hk h)],fun h=>by unfold dS;rw [if_pos (hk h)],fun h=>by unfold dS;rw [if_neg (hk2 h)],fun h=>by unfold dS;rw [if_neg (hk2 h)],t0n (dR p),h1,by omega,by omega,by omega,by omega,by omega,by omega,by omega,rfl,rfl,rfl,rfl⟩⟩
def d0e (l:List UInt8):Wd × Int:=if (F.oneB l).2=0 then (if j0f (F.oneB l).1=true then (wdOf (F.oneB l).1,0) else (zWd,3)) else (zWd,((F.oneB l).2:Nat))
structure SmW (p:List UInt8):Prop where
 r:(dR p).1.length≤18000
 k:dK p=3∨(dR p).1.length≤2000
 li:i0c p=true→b0p (dK p) (dR p).1=true→Light (wdOf p)
open Go.RowKit
theorem q0y (s:ByteArray):s.size≤(encS s).length:=by
 have:s.data.toList.length=s.size:=by rw [Array.length_toList];rfl
 unfold encS a0n
 rw [lL]
 omega
theorem zs_mem:∀ (l:List Zn) (z:Zn),z∈l→(O.encZ z).length≤(l.flatMap O.encZ).length
 | [],_,h=>by cases h
 | x::r,z,h=>by
  rw [List.flatMap_cons,lL]
  rcases List.mem_cons.1 h with rfl | h
  ·omega
  ·have:=zs_mem r z h;omega
theorem encZ_ge (z:Zn):z.fr.size≤(O.encZ z).length∧z.to.size≤(O.encZ z).length∧z.key.size≤(O.encZ z).length:=by
 have h1:=q0y z.fr
 have h2:=q0y z.to
 have h3:=q0y z.key
 unfold O.encZ
 simp only [lL]
 omega
theorem good_MzB {r:List UInt8} (hg:O.e0f r=true) (hr:r.length≤2000):O.MzB (O.decM r).1:=by
 have hc:O.encM (O.decM r).1=r:=by
  unfold O.e0f at hg
  rw [bA] at hg
  exact O.l0n hg.1
 have hx:=O.o0c r
 rw [show O.xM r=(O.decM r).1 from by unfold O.xM;rw [if_pos hg]] at hx
 have hl:(O.encM (O.decM r).1).length≤2000:=by rw [hc];exact hr
 refine ⟨⟨by omega,fun z hz=>?_⟩,by omega,by omega⟩
 have h1:=zs_mem _ z hz
 have h2:=encZ_ge z
 unfold O.encM at hl
 rw [lL] at hl
 omega
theorem MzB0:O.MzB mp0:=O.MzB.of ⟨by decide,fun z hz=>by cases hz⟩
theorem u0c {d:Wd} {r:List UInt8} (hg:b0p d.kind r=true) (hr:r.length≤2000) (hm:d.mp=mp0) (hd:d.data=[]) (hf:d.sf.size≤2000) (ht:d.st.size≤2000):Light (c0j d r):=by
 have h0:d.data.length≤131072:=by rw [hd];decide
 have hm0:O.MzB d.mp:=by rw [hm];exact MzB0
 unfold b0p at hg
 unfold c0j
 split
 ·next k =>
  rw [if_pos k] at hg
  exact ⟨good_MzB hg hr,h0,hf,ht⟩
 split
 ·exact ⟨hm0,h0,hf,ht⟩
 split
 ·exact ⟨hm0,h0,hf,ht⟩
 split
 ·exact ⟨hm0,h0,hf,ht⟩
 ·exact ⟨hm0,by dsimp only;omega,hf,ht⟩
theorem r0w {p:List UInt8} (h:p.length≤2000):SmW p:=by
 obtain ⟨k0,k1,k2,k3,k4,k5,k6,k7,m0,m1,m2,e1,b1,sf,e2,b2,st,e3,b3,e4,b4,r,e5,b5,hI⟩:=wis p
 have hr:=hI.lr
 have hf:=hI.lf
 have ht:=hI.lt
 have hd:=hI.dr
 refine ⟨by rw [hd];omega,.inr (by rw [hd];omega),fun _ hok=>?_⟩
 unfold wdOf
 have z1:∀ l:List UInt8,(⟨l.toArray⟩:ByteArray).size=l.length:=fun l=>by simp [ByteArray.size]
 refine u0c (by rw [show (j0i p).kind=dK p from rfl];exact hok) (by rw [hd];omega) (by rw [hI.base]) (by rw [hI.base]) (by rw [hI.base];show (⟨sf.toArray⟩:ByteArray).size≤2000;rw [z1];omega) (by rw [hI.base];show (⟨st.toArray⟩:ByteArray).size≤2000;rw [z1];omega)
theorem w0x {l p:List UInt8} {c:Nat} (h:F.oneB l=(p,c)) (hc:c=0):p.length≤l.length:=by
 subst hc
 have:=k0w (l:=l) (by rw [h])
 rw [h] at this
 dsimp only at this
 have h2:=congrArg List.length this.1
 rw [F.f0y] at h2
 omega
end Go.Proofs.YtogamdaomdoapaaGreat