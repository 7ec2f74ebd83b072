/- Texts put together: OFi, OEn, EqZ, OHm, RefRd, RefRdNum, RefRdBytes, TakesObj. -/
import Derived.Test.YtogamdaomdoapaaGreatGa01
import Derived.Test.YtogamdaomdoapaaGreatGa02
import Derived.Test.YtogamdaomdoapaaGreatGa03
import Derived.Test.YtogamdaomdoapaaGreatGa04
import Derived.Test.YtogamdaomdoapaaGreatGa05
import Derived.Test.YtogamdaomdoapaaGreatGa06
import Derived.Test.YtogamdaomdoapaaGreatGa07
namespace Go.Proofs.YtogamdaomdoapaaGreat.O
open Go.Value renaming int→aI,string→aS,bool→aB
open Go.IntKind renaming i64→aK
open List renaming length_append→lL
open Go.Lib renaming hid→uH
open Go.RowKit
structure ZnO (w:World) (g o:Nat) (l:List Zn):Prop where
 lt:g<w.heap.size
 cell:∀ i,(h:i<l.length)→∀ j v,(znV l[i])[j]?=some v→w.cell? ⟨g,o+i * 9+j,none⟩=some v
theorem ZnO.grow {w w':World} {g o:Nat} {l:List Zn} (h:ZnO w g o l) (b:Below w.heap.size w w'):ZnO w' g o l :=
 ⟨Nat.lt_of_lt_of_le h.lt b.size,fun i hi j v hv=>(b.cell (p:=⟨g,_,none⟩) h.lt).trans (h.cell i hi j v hv)⟩
theorem _root_.Go.Proofs.YtogamdaomdoapaaGreat.OwnZ.atO {w:World} {base g cap:Nat} {l:List Zn} (h:OwnZ w base g cap l):ZnO w g 0 l:=⟨h.facts.2.1,fun i hi j v hv=>by rw [Nat.zero_add];exact h.cell i hi j v hv⟩
theorem ZnO.nine {w:World} {g o:Nat} {l:List Zn} (h:ZnO w g o l) (i:Nat) (hi:i<l.length) (z:Zn) (hz:z=l[i]):w.cell? ⟨g,o+i * 9,none⟩=some (aI aK z.id)∧w.cell? ⟨g,o+i * 9+1,none⟩=some (aS z.fr)∧w.cell? ⟨g,o+i * 9+2,none⟩=some (aS z.to)∧w.cell? ⟨g,o+i * 9+3,none⟩=some (aI aK z.owner)∧w.cell? ⟨g,o+i * 9+4,none⟩=some (aI aK z.epoch)∧w.cell? ⟨g,o+i * 9+5,none⟩=some (aI aK z.pend)∧w.cell? ⟨g,o+i * 9+6,none⟩=some (aI aK z.tt)∧w.cell? ⟨g,o+i * 9+7,none⟩=some (aS z.key)∧w.cell? ⟨g,o+i * 9+8,none⟩=some (aI aK z.nw):=by
 subst hz
 exact ⟨h.cell i hi 0 _ rfl,h.cell i hi 1 _ rfl,h.cell i hi 2 _ rfl,h.cell i hi 3 _ rfl,h.cell i hi 4 _ rfl,h.cell i hi 5 _ rfl,h.cell i hi 6 _ rfl,h.cell i hi 7 _ rfl,h.cell i hi 8 _ rfl⟩
theorem j0r {α:Type} {p:α→Bool} {l:List α} (h:∀ j (hj:j<l.length),p l[j]=false):l.findIdx? p=none:=by
 rw [List.findIdx?_eq_none_iff]
 intro x hx
 obtain ⟨j,hj,rfl⟩:=List.getElem_of_mem hx
 exact h j hj
theorem m0m {α:Type} {p:α→Bool} {l:List α} {i:Nat} (hi:i<l.length) (hp:p l[i]=true) (h:∀ j (hj:j<l.length),j<i→p l[j]=false):l.findIdx? p=some i:=by
 rw [List.findIdx?_eq_some_iff_getElem]
 exact ⟨hi,hp,fun j hj=>by rw [h j (by omega) hj];decide⟩
def fz (l:List Zn) (id:Int):Int:=match c0w l id with | none=>-1 | some i=>i
set_option maxHeartbeats 1000000 in
theorem isId_any (z:Zn) (k:Nat) (id:Int) (w:World) (hk:k<w.heap.size) (hc:w.cell? ⟨k,0,none⟩=some (aI aK id)) :
 Calls Tryz.prog 151 #[.agg #[aI aK z.id,aS z.fr,aS z.to,aI aK z.owner,aI aK z.epoch,aI aK z.pend,aI aK z.tt,aS z.key,aI aK z.nw],.pointer (some ⟨k,0,none⟩)] w fun e w'=>e=.returned (aB (z.id==id))∧Below w.heap.size w w':=by
 go_enter Tryz.func151,Tryz.ntmps151
 go_wp2_with fail
 go_ret
 exact ⟨rfl,bg⟩
set_option maxRecDepth 20000 in
set_option maxHeartbeats 2000000 in
theorem n0o {g o zc:Nat} {l:List Zn} {w:World} (h:ZnO w g o l) (hm:l.length≤1000) (id:Int) (k:Nat) (hk:k<w.heap.size) (hc:w.cell? ⟨k,0,none⟩=some (aI aK id)) :
 Calls Tryz.prog 150 #[.slice (some ⟨g,o,none⟩) l.length zc,.func (.func 151) #[] #[.pointer (some ⟨k,0,none⟩)]] w fun e w'=>e=.returned (aI aK (fz l id))∧Below w.heap.size w w':=by
 have Hz:=uH h
 clear h
 go_enter Tryz.func150,Tryz.ntmps150
 go_wp2_with fail
 go_loopw [8] (fun s wr=>∃ i:Nat,s=aI aK i∧i≤l.length∧Hid (∀ j (hj:j<l.length),j<i→(l[j].id==id)=false)∧Below w.heap.size w wr) (fun s _=>l.length - (intOf s).toNat)
 case atStart=>exact ⟨0,rfl,by omega,fun j _ hj=>by omega,Below.refl _ _⟩
 case round =>
  obtain ⟨i,rfl,hi,hne,wr_b⟩:=hrel
  by_cases hlt:i<l.length
  ·obtain ⟨z,hz⟩:∃ z,z=l[i]:=⟨_,rfl⟩
   obtain ⟨d0,d1,d2,d3,d4,d5,d6,d7,d8⟩:=(Hz.out.grow wr_b).nine i hlt z hz
   have hs:=wr_b.size
   have hc2:=(wr_b.cell (p:=⟨k,0,none⟩) hk).trans hc
   have Hv:=uH hz
   clear hz
   go_wp2_with fail
   refine (isId_any z k id _ (by omega) hc2).mono ?_
   by_cases hk:z.id=id
   ·have hkb:(z.id==id)=true:=by rw [beq_iff_eq];exact hk
    rw [hkb]
    rintro e w1 ⟨rfl,w1_b⟩
    clear hk
    go_wp2_with fail
    go_ret
    refine ⟨?_,bg⟩
    rw [fz,c0w,m0m hlt (by rw [←Hv.out];exact hkb) hne.out]
    rfl
   ·have hkb:(z.id==id)=false:=by rw [beq_eq_false_iff_ne];exact hk
    rw [hkb]
    rintro e w1 ⟨rfl,w1_b⟩
    clear hk
    go_wp2_with fail
    go_roundw
    case rel=>exact ⟨i+1,by go_num,by omega,fun j hj hji=>by
     by_cases h:j=i
     ·subst h;rw [←Hv.out];exact hkb
     ·exact hne.out j hj (by omega),bg⟩
    case measure=>simp [intOf];omega
  ·go_wp2_with fail
   go_ret
   refine ⟨?_,wr_b⟩
   rw [fz,c0w,j0r (fun j hj=>hne.out j hj (by omega))]
   rfl
set_option maxRecDepth 20000 in
set_option maxHeartbeats 2000000 in
theorem n0s {g o zc:Nat} {l:List Zn} {w:World} (h:ZnO w g o l) (hm:l.length≤1000) (ver next id:Int) :
 Calls Tryz.prog 144 #[.agg #[aI aK ver,aI aK next,.slice (some ⟨g,o,none⟩) l.length zc],aI aK id] w fun e w'=>e=.returned (aI aK (fz l id))∧Below w.heap.size w w':=by
 have Hz:=uH h
 clear h
 go_enter Tryz.func144,Tryz.ntmps144
 go_wp2_with fail
 (refine a0e fun wa hwa=>?_;have wa_s0:=sg (w.heap.size+1) hwa;obtain wa_c0:=kk1 hwa (w.heap.size+1) 0 (aI aK id);have wa_b:Below w.heap.size w wa:=(by rw [hwa];exact bg);clear hwa)
 refine (n0o (Hz.out.grow wa_b) hm id (w.heap.size+1) wa_s0 wa_c0).mono ?_
 (rintro e w1 ⟨rfl,w1_h⟩;obtain ⟨w1_hc,w1_hf⟩:=a0w w1_h;have w1_z:=w1_h.size;have w1_b:=wa_b.trans (w1_h.mono (by have:=wa_b.size;omega));have w1_le:=w1_b.size;clear w1_h)
 go_wp2_with fail
 go_ret
 exact ⟨rfl,w1_b⟩
set_option maxRecDepth 20000 in
set_option maxHeartbeats 2000000 in
theorem k0r {g o zc:Nat} {l:List Zn} {w:World} (h:ZnO w g o l) (hm:l.length≤1000) (id:Int) :
 Calls Tryz.prog 103 #[.slice (some ⟨g,o,none⟩) l.length zc,aI aK id] w fun e w'=>e=.returned (aI aK (fz l id))∧Below w.heap.size w w':=by
 have Hz:=uH h
 clear h
 go_enter Tryz.func103,Tryz.ntmps103
 go_wp2_with fail
 go_loopw [5] (fun s wr=>∃ i:Nat,s=aI aK i∧i≤l.length∧Hid (∀ j (hj:j<l.length),j<i→(l[j].id==id)=false)∧Below w.heap.size w wr) (fun s _=>l.length - (intOf s).toNat)
 case atStart=>exact ⟨0,rfl,by omega,fun j _ hj=>by omega,Below.refl _ _⟩
 case round =>
  obtain ⟨i,rfl,hi,hne,wr_b⟩:=hrel
  by_cases hlt:i<l.length
  ·obtain ⟨z,hz⟩:∃ z,z=l[i]:=⟨_,rfl⟩
   obtain ⟨d0,d1,d2,d3,d4,d5,d6,d7,d8⟩:=(Hz.out.grow wr_b).nine i hlt z hz
   have Hv:=uH hz
   clear hz
   by_cases hk:z.id=id
   ·have hkb:(z.id==id)=true:=by rw [beq_iff_eq];exact hk
    have Hkb:=uH hkb
    clear hk
    go_wp2_with fail
    go_ret
    refine ⟨?_,wr_b⟩
    rw [fz,c0w,m0m hlt (by rw [←Hv.out];exact Hkb.out) hne.out]
    rfl
   ·have hkb:(z.id==id)=false:=by rw [beq_eq_false_iff_ne];exact hk
    have Hkb:=uH hkb
    clear hk
    go_wp2_with fail
    go_roundw
    case rel=>exact ⟨i+1,by go_num,by omega,fun j hj hji=>by
     by_cases h:j=i
     ·subst h;rw [←Hv.out];exact Hkb.out
     ·exact hne.out j hj (by omega),wr_b⟩
    case measure=>simp [intOf];omega
  ·go_wp2_with fail
   go_ret
   refine ⟨?_,wr_b⟩
   rw [fz,c0w,j0r (fun j hj=>hne.out j hj (by omega))]
   rfl
end Go.Proofs.YtogamdaomdoapaaGreat.O
namespace Go.Proofs.YtogamdaomdoapaaGreat.O
open Go.Value renaming int→aI,string→aS,bool→aB
open Go.IntKind renaming i64→aK
open List renaming length_append→lL
open Go.Lib renaming hid→uH
open Go.RowKit
set_option maxRecDepth 20000
def ZsAt (w:World) (ao:Option Addr) (l:List Zn):Prop:=0<l.length→∃ g o,ao=some ⟨g,o,none⟩∧ZnO w g o l
theorem ZsAt.grow {w w':World} {ao:Option Addr} {l:List Zn} (h:ZsAt w ao l) (b:Below w.heap.size w w'):ZsAt w' ao l:=fun hp=>by
 obtain ⟨g,o,e,hz⟩:=h hp
 exact ⟨g,o,e,hz.grow b⟩
def SzB (m:Mp):Prop:=m.zs.length≤2100∧∀ z∈m.zs,z.fr.size≤20000∧z.to.size≤20000∧z.key.size≤20000
theorem q0x (z:Zn) (h:z.fr.size≤20000∧z.to.size≤20000∧z.key.size≤20000):(encZ z).length≤61000:=by
 have h1:=a0m [z.id]
 have h2:=a0m [z.owner,z.epoch,z.pend,z.tt]
 have h3:=a0m [z.nw]
 have h4:=a0t z.fr
 have h5:=a0t z.to
 have h6:=a0t z.key
 unfold encZ
 simp only [lL,List.length_cons,List.length_nil] at h1 h2 h3 ⊢
 omega
theorem l0j {m:Mp} (h:SzB m) (k:Nat):((m.zs.take k).flatMap encZ).length≤61000 * k:=by
 obtain ⟨-,hz⟩:=h
 generalize m.zs=l at hz
 induction l generalizing k with
 | nil=>simp
 | cons z r ih =>
  cases k with
  | zero=>simp
  | succ k =>
   have h1:=q0x z (hz z (by simp))
   have h2:=ih k (fun y hy=>hz y (by simp [hy]))
   simp only [List.take_succ_cons,List.flatMap_cons,lL]
   omega
theorem o0f {l:List Zn} {k:Nat} (h:k<l.length):(l.take (k+1)).flatMap encZ=(l.take k).flatMap encZ++encZ l[k]:=by
 rw [List.take_succ_eq_append_getElem h,List.flatMap_append];simp only [List.flatMap_cons,List.flatMap_nil,List.append_nil]
set_option maxHeartbeats 4000000 in
theorem k0u (ao:Option Addr) (zc:Nat) (m:Mp) (w:World) (h:ZsAt w ao m.zs) (hs:SzB m) :
 Calls Tryz.prog 115 #[.agg #[aI aK m.ver,aI aK m.next,.slice ao m.zs.length zc]] w (d0b w (encM m)):=by
 have Hz:=uH h
 have Hs:=uH hs
 have hcv:=b0y
 obtain ⟨n,hn⟩:∃ n,n=m.zs.length:=⟨_,rfl⟩
 obtain ⟨nx,hnx⟩:∃ nx,nx=m.next:=⟨_,rfl⟩
 obtain ⟨ver,hver⟩:∃ ver,ver=m.ver:=⟨_,rfl⟩
 have hn2:n≤2100:=by rw [hn];exact hs.1
 rw [←hn,←hnx,←hver]
 obtain ⟨hd,hhd⟩:∃ hd,hd=encs [ver,nx,(n:Int)]:=⟨_,rfl⟩
 have hhl:hd.length≤30:=by rw [hhd];exact a0m _
 have HE:Hid (encM m=hd++m.zs.flatMap encZ):=by unfold encM;rw [hhd,hn,hnx,hver];exact uH rfl
 have Hn:=uH hn
 have Hhd:=uH hhd
 clear h hs hn hnx hver hhd
 go_enter Tryz.func115,Tryz.ntmps115
 go_wp2_with fail
 have s0:=((St.start w).objN (.cells #[aI aK ver,aI aK nx,.slice ao n zc] 44) w.heap.size rfl).t0z (w.heap.size+1) (by simp) w.heap.size
 refine (s0.nums [ver,nx,(n:Int)] (w.heap.size+1+1) 3 (by simp) rfl _ rfl (by simp)).mono ?_
 rintro e w1 ⟨rfl,o1,hS⟩
 have S1:Hid (∃ o',St w w1 [thWr (w.heap.size+1) w.heap.size (hd++(m.zs.take 0).flatMap encZ) o',a0c w.heap.size (.cells #[aI aK ver,aI aK nx,.slice ao n zc] 44)]):=by
  rw [Hhd.out]
  refine uH ⟨o1,?_⟩
  simpa using hS
 obtain ⟨hb1,hb2,-⟩:=hS.cells (t:=44) (b:=w.heap.size) (cur:=#[aI aK ver,aI aK nx,.slice ao n zc]) (by simp)
 clear s0 hS
 go_wp2_with fail
 clear hb1 hb2
 go_loopw [18] (fun s wr=>∃ k:Nat,s=aI aK k∧k≤n∧Hid (∃ o',St w wr [thWr (w.heap.size+1) w.heap.size (hd++(m.zs.take k).flatMap encZ) o',a0c w.heap.size (.cells #[aI aK ver,aI aK nx,.slice ao n zc] 44)])) (fun s _=>n - (intOf s).toNat)
 case atStart=>exact ⟨0,rfl,by omega,S1⟩
 case round =>
  obtain ⟨k,rfl,hk,hS⟩:=hrel
  obtain ⟨o1,hS⟩:=hS.out
  have S2:=uH hS
  clear S1 hS
  by_cases hlt:k<n
  ·have hl1:k<m.zs.length:=by have:=Hn.out;omega
   obtain ⟨g,o,rfl,hz⟩:=Hz.out (by omega)
   have hgr:g<wr.heap.size:=Nat.lt_of_lt_of_le hz.lt S2.out.b.size
   obtain ⟨f0,f1,f2,f3,f4,f5,f6,f7,f8⟩:=(hz.grow S2.out.b).nine k hl1 _ rfl
   have hsz:=Hs.out.2 m.zs[k] (List.getElem_mem hl1)
   obtain ⟨zid,fr,to,owner,epoch,pend,tt,key,nw,hzk⟩:∃ zid fr to owner epoch pend tt key nw,m.zs[k]=(⟨zid,fr,to,owner,epoch,pend,tt,key,nw⟩:Zn):=⟨_,_,_,_,_,_,_,_,_,rfl⟩
   have htk:=o0f hl1
   rw [hzk] at hsz htk f0 f1 f2 f3 f4 f5 f6 f7 f8
   dsimp only at hsz f0 f1 f2 f3 f4 f5 f6 f7 f8
   have hcl:=l0j Hs.out k
   obtain ⟨cur,hcur⟩:∃ cur,cur=hd++(m.zs.take k).flatMap encZ:=⟨_,rfl⟩
   have hcl2:cur.length≤130000000:=by rw [hcur,lL];omega
   have Htk:Hid (hd++(m.zs.take (k+1)).flatMap encZ=cur++encs [zid]++(encS fr++encS to)++encs [owner,epoch,pend,tt]++encS key++encs [nw]):=by rw [htk,hcur];unfold encZ;exact uH (by simp only [List.append_assoc])
   rw [←hcur] at S2
   obtain ⟨h1,h2,h3⟩:=hsz
   have l1:=a0m [zid]
   have l2:=a0m [owner,epoch,pend,tt]
   have l3:=a0m [nw]
   have l4:=a0t fr
   have l5:=a0t to
   have l6:=a0t key
   simp only [List.length_cons,List.length_nil] at l1 l2 l3
   have HL:=uH (⟨l1,l2,l3,l4,l5,l6⟩:_∧_∧_∧_∧_∧_)
   clear hz hzk htk hcl hcur l1 l2 l3 l4 l5 l6
   go_wp2_with fail
   obtain ⟨bx,hbx⟩:∃ bx,bx=wr.heap.size:=⟨_,rfl⟩
   have s3:=(S2.out.objN (.cells #[aI aK zid,aS fr,aS to,aI aK owner,aI aK epoch,aI aK pend,aI aK tt,aS key,aI aK nw] 125) bx hbx).pull (A:=[_])
   rw [←hbx]
   refine (s3.nums [zid] (bx+1) 1 (by simp [hbx]) rfl _ rfl (by simp;omega)).mono ?_
   rintro e w3 ⟨rfl,o3,hS⟩
   have S3:=uH hS
   obtain ⟨c1,c2,-⟩:=hS.cells (t:=125) (b:=bx) (cur:=#[aI aK zid,aS fr,aS to,aI aK owner,aI aK epoch,aI aK pend,aI aK tt,aS key,aI aK nw]) (by simp)
   clear hS s3 S2 hgr f0 f1 f2 f3 f4 f5 f6 f7 f8 hbx
   have g1:bx<w3.heap.size+1:=by omega
   have g2:bx<w3.heap.size+1+1:=by omega
   go_wp2_with fail
   refine (St.text2 S3.out fr to (by omega) (by omega) (w3.heap.size+1+1) rfl w3.heap.size (w3.heap.size+1) rfl rfl (by have:=HL.out;simp only [lL];omega)).mono ?_
   rintro e w4 ⟨rfl,o4,hS⟩
   have S4:=uH hS
   obtain ⟨c1,c2,-⟩:=hS.cells (t:=125) (b:=bx) (cur:=#[aI aK zid,aS fr,aS to,aI aK owner,aI aK epoch,aI aK pend,aI aK tt,aS key,aI aK nw]) (by simp)
   clear hS S3 g1 g2
   go_wp2_with fail
   refine (S4.out.nums [owner,epoch,pend,tt] w4.heap.size 4 rfl rfl _ rfl (by have:=HL.out;simp only [lL,List.length_cons,List.length_nil];omega)).mono ?_
   rintro e w5 ⟨rfl,o5,hS⟩
   have S5:=uH hS
   obtain ⟨c1,c2,-⟩:=hS.cells (t:=125) (b:=bx) (cur:=#[aI aK zid,aS fr,aS to,aI aK owner,aI aK epoch,aI aK pend,aI aK tt,aS key,aI aK nw]) (by simp)
   clear hS S4
   have g1:bx<w5.heap.size+1:=by omega
   go_wp2_with fail
   refine (St.text1 S5.out key (by omega) (w5.heap.size+1) rfl w5.heap.size rfl (by have:=HL.out;simp only [lL];omega)).mono ?_
   rintro e w6 ⟨rfl,o6,hS⟩
   have S6:=uH hS
   obtain ⟨c1,c2,-⟩:=hS.cells (t:=125) (b:=bx) (cur:=#[aI aK zid,aS fr,aS to,aI aK owner,aI aK epoch,aI aK pend,aI aK tt,aS key,aI aK nw]) (by simp)
   clear hS S5 g1
   go_wp2_with fail
   refine (S6.out.nums [nw] w6.heap.size 1 rfl rfl _ rfl (by have:=HL.out;simp only [lL,List.length_cons,List.length_nil];omega)).mono ?_
   rintro e w7 ⟨rfl,o7,hS⟩
   have S7:Hid (∃ o',St w w7 [thWr (w.heap.size+1) w.heap.size (hd++(m.zs.take (k+1)).flatMap encZ) o',a0c w.heap.size (.cells #[aI aK ver,aI aK nx,.slice (some ⟨g,o,none⟩) n zc] 44)]):=by
    rw [Htk.out]
    exact uH ⟨o7,(hS.pull (A:=[_])).drop⟩
   clear hS S6 c1 c2
   go_wp2_with fail
   go_roundw
   case rel=>exact ⟨k+1,by go_num,by omega,S7⟩
   case measure=>simp [intOf];omega
  ·obtain rfl:n=k:=by omega
   have S3:Hid (St w wr [thWr (w.heap.size+1) w.heap.size (encM m) o1,a0c w.heap.size (.cells #[aI aK ver,aI aK nx,.slice ao n zc] 44)]):=by
    have:=S2.out
    rw [HE.out]
    rwa [show m.zs.take n=m.zs from by rw [Hn.out,List.take_length]] at this
   have hlen:(encM m).length≤140737488351232:=by
    have:=l0j Hs.out n
    rw [HE.out,lL]
    rw [show m.zs.take n=m.zs from by rw [Hn.out,List.take_length]] at this
    omega
   clear S2
   obtain ⟨X,hX⟩:∃ X,X=encM m:=⟨_,rfl⟩
   rw [←hX] at S3 hlen
   have HX:=uH hX
   clear hX
   go_wp2_with fail
   refine (f0i (w.heap.size+1) w.heap.size X o1 wr S3.out.head hlen).mono ?_
   rintro e w5 ⟨bo,cap,rfl,ho,hb⟩
   have Ho:=uH (b0a ho S3.out.b.size)
   have Hb:=uH (S3.out.grow hb).b
   clear ho hb
   go_wp2_with fail
   go_ret
   rw [←HX.out]
   exact ⟨bo,cap,rfl,Ho.out,Hb.out⟩
end Go.Proofs.YtogamdaomdoapaaGreat.O
namespace Go.Proofs.YtogamdaomdoapaaGreat
open Go.Value renaming int→aI,string→aS,bool→aB
open Go.IntKind renaming i64→aK
open List renaming length_append→lL
open Go.Lib renaming hid→uH
open Go.RowKit
def eqZ (a b:Zn):Bool:=decide (a.id=b.id∧a.fr.toList=b.fr.toList∧a.to.toList=b.to.toList∧a.owner=b.owner∧a.epoch=b.epoch∧a.pend=b.pend∧a.tt=b.tt∧a.key.toList=b.key.toList∧a.nw=b.nw)
theorem toList_eq {a b:ByteArray}:a.toList=b.toList↔a=b:=by
 constructor
 ·intro h
  rw [ByteArray.toList_eq,ByteArray.toList_eq] at h
  cases a;cases b;simp at h;rw [h]
 ·rintro rfl;rfl
theorem x0y (a b:Zn):eqZ a b=decide (a=b):=by
 unfold eqZ
 obtain ⟨a0,a1,a2,a3,a4,a5,a6,a7,a8⟩:=a
 obtain ⟨b0,b1,b2,b3,b4,b5,b6,b7,b8⟩:=b
 simp only [Zn.mk.injEq,toList_eq]
set_option maxHeartbeats 1000000 in
theorem eql_zn (a b:Zn) (w:World) (r:Bool) (hr:eqZ a b=r):(Op.equalIn 10000 125 (.agg #[aI aK a.id,aS a.fr,aS a.to,aI aK a.owner,aI aK a.epoch,aI aK a.pend,aI aK a.tt,aS a.key,aI aK a.nw]) (.agg #[aI aK b.id,aS b.fr,aS b.to,aI aK b.owner,aI aK b.epoch,aI aK b.pend,aI aK b.tt,aS b.key,aI aK b.nw])).run Tryz.prog w=.ok r w:=by
 subst hr
 unfold eqZ
 go_simp
 by_cases h1:a.id=b.id
 ·by_cases h2:a.fr.toList=b.fr.toList
  ·by_cases h3:a.to.toList=b.to.toList
   ·by_cases h4:a.owner=b.owner
    ·by_cases h5:a.epoch=b.epoch
     ·by_cases h6:a.pend=b.pend
      ·by_cases h7:a.tt=b.tt
       ·by_cases h8:a.key.toList=b.key.toList
        ·by_cases h9:a.nw=b.nw
         ·simp [h1,h2,h3,h4,h5,h6,h7,h8,h9]
         ·simp [h1,h2,h3,h4,h5,h6,h7,h8,h9]
        ·simp [h1,h2,h3,h4,h5,h6,h7,h8]
       ·simp [h1,h2,h3,h4,h5,h6,h7]
      ·simp [h1,h2,h3,h4,h5,h6]
     ·simp [h1,h2,h3,h4,h5]
    ·simp [h1,h2,h3,h4]
   ·simp [h1,h2,h3]
  ·simp [h1,h2]
 ·simp [h1]
end Go.Proofs.YtogamdaomdoapaaGreat
namespace Go.Proofs.YtogamdaomdoapaaGreat.O
open Go.Value renaming int→aI,string→aS,bool→aB
open Go.IntKind renaming i64→aK
open List renaming length_append→lL
open Go.Lib renaming hid→uH
open Go.RowKit
set_option maxRecDepth 20000
def LtB (l:List Zn):Prop:=l.length≤60∧∀ z∈l,z.fr.size≤60∧z.to.size≤60∧z.key.size≤60
theorem LtB.sz {m:Mp} (h:LtB m.zs):SzB m:=⟨by have:=h.1;omega,fun z hz=>by have:=h.2 z hz;omega⟩
end Go.Proofs.YtogamdaomdoapaaGreat.O
namespace Go.Proofs.YtogamdaomdoapaaGreat
open Go.Value renaming int→aI,string→aS,bool→aB
open Go.IntKind renaming i64→aK
open List renaming length_append→lL
open Go.Lib renaming hid→uH
open Go.RowKit
set_option maxRecDepth 20000
def RRAt (w:World) (p g:Nat) (rest:List UInt8) (bad:Bool):Prop:=(bad=true→rest=[])∧∃ ao cap,w.heap[p]?=some (.cells #[.slice ao rest.length cap,aB bad] 118 (0,0))∧rest.length≤cap∧cap≤9223372036854775807∧(ao=none→rest.length=0∧cap=0)∧g≠p∧(0<rest.length→∃ off,ao=some ⟨g,off,none⟩∧g<w.heap.size∧BRow w g off rest)
theorem RRAt.stay {w w':World} {p g:Nat} {rest:List UInt8} {bad:Bool} {S:Nat→Prop} (h:RRAt w p g rest bad) (k:Keeps w w' S) (hp:¬S p) (hg:0<rest.length→¬S g):RRAt w' p g rest bad:=by
 obtain ⟨h0,ao,cap,h1,h2,h3,h4,h5,h6⟩:=h
 refine ⟨h0,ao,cap,(k.block p (lt_of_block h1) hp).trans h1,h2,h3,h4,h5,fun hl=>?_⟩
 obtain ⟨off,e,hlt,hr⟩:=h6 hl
 exact ⟨off,e,Nat.lt_of_lt_of_le hlt k.size,hr.keeps hlt k (hg hl)⟩
theorem RRAt.lt {w:World} {p g:Nat} {rest:List UInt8} {bad:Bool} (h:RRAt w p g rest bad):p<w.heap.size:=by
 obtain ⟨-,ao,cap,h1,-⟩:=h
 exact lt_of_block h1
theorem RRAt.glt {w:World} {p g:Nat} {rest:List UInt8} {bad:Bool} (h:RRAt w p g rest bad) (hl:0<rest.length):g<w.heap.size:=by
 obtain ⟨-,ao,cap,-,-,-,-,-,h6⟩:=h
 obtain ⟨off,e,hlt,-⟩:=h6 hl
 exact hlt
def thRR (p g:Nat) (rest:List UInt8) (bad:Bool):Th where
 T w:=RRAt w p g rest bad
 F x:=x=p∨(x=g∧0<rest.length)
 stay h k hS:=h.stay k (hS _ (.inl rfl)) (fun hl=>hS _ (.inr ⟨rfl,hl⟩))
 lt h hx:=by
  rcases hx with rfl | ⟨rfl,hx⟩
  ·exact h.lt
  ·exact h.glt hx
theorem d0r (p g:Nat) (rest:List UInt8) (bad:Bool) (w:World) (h:RRAt w p g rest bad) :
 Calls Tryz.prog 97 #[.pointer (some ⟨p,0,none⟩)] w fun e w'=>e=.returned (.tuple #[])∧RRAt w' p g [] true∧Keeps w w' (fun x=>x=p):=by
 obtain ⟨-,ao,cap,hh,-,-,-,hgp,-⟩:=h
 obtain ⟨c0,c1,f0,f1⟩:=b0m hh
 have Hh:=uH hh
 clear hh
 go_enter Tryz.func97,Tryz.ntmps97
 go_wp2_with fail
 go_end0
 exact ⟨rfl,⟨fun _=>rfl,none,0,f0s (k0n Hh.out),Nat.le_refl _,by omega,fun _=>⟨rfl,rfl⟩,hgp,fun h=>by simp at h⟩,(Keeps.set w _ _).trans (Keeps.set _ _ _) (fun _ h=>h) (fun _ _ h=>h)⟩
theorem e0c (p g:Nat) (rest:List UInt8) (bad:Bool) (w:World) (h:RRAt w p g rest bad) :
 Calls Tryz.prog 102 #[.pointer (some ⟨p,0,none⟩)] w fun e w'=>e=.returned (aB (!bad&&rest.isEmpty))∧w'=w:=by
 obtain ⟨-,ao,cap,hh,-⟩:=h
 obtain ⟨c0,c1,f0,f1⟩:=b0m hh
 clear hh
 cases bad
 ·cases rest with
  | nil =>
   simp only [List.length_nil] at c0
   go_enter Tryz.func102,Tryz.ntmps102
   go_wp2_with fail
   go_ret
   exact ⟨rfl,rfl⟩
  | cons x r =>
   have hl:¬(((x::r).length:Nat):Int)=0:=by simp;omega
   obtain ⟨n,hn⟩:∃ n,n=(x::r).length:=⟨_,rfl⟩
   rw [←hn] at c0 hl
   clear hn
   go_enter Tryz.func102,Tryz.ntmps102
   go_wp2_with fail
   go_ret
   refine ⟨?_,rfl⟩
   have:((n:Int)==0)=false:=by rw [beq_eq_false_iff_ne];exact hl
   first | rfl | (show Ending.returned (aB ((n:Int)==0))=_;rw [this];rfl)
 ·go_enter Tryz.func102,Tryz.ntmps102
  go_wp2_with fail
  go_ret
  exact ⟨rfl,rfl⟩
theorem rr_cut {w w1:World} {p g n cap:Nat} {rest:List UInt8} {ao ao':Option Addr} {cap':Nat} (hw:w1.heap[p]?=some (.cells #[.slice ao rest.length cap,aB false] 118 (0,0))) (hn:n≤rest.length) (hlc:rest.length≤cap) (hcm:cap≤9223372036854775807) (hgp:g≠p)
 (hrow:0<rest.length→∃ off,ao=some ⟨g,off,none⟩∧g<w.heap.size∧BRow w g off rest) (hb:Below w.heap.size w w1) (hc:cap'=cap - n) (h0:ao'=none→rest.length - n=0∧cap'=0) (hao:n<rest.length→ao'=ao.map fun x=>x.add n) :
 RRAt (w1.setCell ⟨p,0,none⟩ (.slice ao' (rest.length - n) cap')) p g (rest.drop n) false:=by
 have hln:rest.length - n=(rest.drop n).length:=by rw [List.length_drop]
 rw [hln]
 refine ⟨fun h=>(nomatch h),ao',cap',f0s hw,by rw [List.length_drop];omega,by omega,fun h=>by rw [List.length_drop];exact h0 h,hgp,fun hp=>?_⟩
 rw [List.length_drop] at hp
 obtain ⟨off,e,hlt,hr⟩:=hrow (by omega)
 refine ⟨off+n,by rw [hao (by omega),e];simp only [Option.map_some,c0q],by simp only [World.setCell,Array.size_modify];exact Nat.lt_of_lt_of_le hlt hb.size,fun i hi=>?_⟩
 rw [World.cell?_of_block (w:=w1) (Below.heap_setCell _ _ _ _ hgp)]
 rw [List.length_drop] at hi
 have:=(hr.below hlt hb) (n+i) (by omega)
 rw [List.getElem_drop,Nat.add_assoc]
 exact this
theorem m0w (p g:Nat) (rest:List UInt8) (bad:Bool) (n:Int) (w:World) (h:RRAt w p g rest bad) (hn:n<0∨(rest.length:Int)<n) :
 Calls Tryz.prog 96 #[.pointer (some ⟨p,0,none⟩),aI aK n] w fun e w'=>e=.returned (.slice none 0 0)∧RRAt w' p g [] true∧Keeps w w' (fun x=>x=p):=by
 have Hbad:=uH (d0r p g rest bad w h)
 obtain ⟨-,ao,cap,hh,-⟩:=h
 obtain ⟨c0,c1,f0,f1⟩:=b0m hh
 clear hh
 by_cases h1:n<0
 all_goals
  go_enter Tryz.func96,Tryz.ntmps96
  go_wp2_with fail
  all_goals first | (exfalso;omega) | skip
  refine Hbad.out.mono ?_
  rintro e w1 ⟨rfl,hr,hk⟩
  have hr':=hr
  obtain ⟨-,bo,bc,hh1,-⟩:=hr'
  obtain ⟨d0,d1,-,-⟩:=b0m hh1
  have Hr:=uH hr
  clear hh1 hr
  go_wp2_with fail
  go_ret
  exact ⟨rfl,Hr.out,hk⟩
set_option maxHeartbeats 2000000 in
theorem o0i (p g:Nat) (rest:List UInt8) (n:Nat) (w:World) (h:RRAt w p g rest false) (hn:n≤rest.length) (hm:rest.length≤140737488351232) :
 Calls Tryz.prog 96 #[.pointer (some ⟨p,0,none⟩),aI aK n] w fun e w'=>∃ ao cap,e=.returned (.slice ao n cap)∧OwnB w' w.heap.size ao cap (rest.take n)∧RRAt w' p g (rest.drop n) false∧Keeps w w' (fun x=>x=p):=by
 obtain ⟨-,ao,cap,hh,hlc,hcm,hnone,hgp,hrow⟩:=h
 obtain ⟨c0,c1,f0,f1⟩:=b0m hh
 have Hh:=uH hh
 have Hnone:=uH hnone
 have Hrow:=uH hrow
 clear hh hnone hrow
 obtain ⟨i0,hi,hz0,hz1,hz2⟩:=info_parts c0h
 have h1:¬(n:Int)<0:=by omega
 have h2:¬(rest.length:Int)<n:=by omega
 have hl:(rest.take n).length=n:=by rw [List.length_take,Nat.min_eq_left hn]
 have hat:BAt w ao (rest.take n):=fun hp=>by
  obtain ⟨off,e,hlt,hr⟩:=Hrow.out (by omega)
  exact ⟨g,off,e,hlt,fun i hi=>by rw [List.getElem_take];exact hr i (by omega)⟩
 have hlt:=lt_of_block Hh.out
 have Hat:=uH hat
 have Hl:=uH hl
 clear hat hl
 go_enter Tryz.func96,Tryz.ntmps96
 go_wp2_with (at_builtin;go_must (refine c0i _ rfl (.tmp 23) (.tmp 29) 47 rfl w.heap.size 5 i0 (aI .u8 0) 1 1 Tryz.underlying47 hi hz0 hz1 hz2 rfl (by decide) _ 0 [] rfl (f0c _ w.heap.size rfl w.heap.size (Nat.le_refl _) 5 1) ao n cap (bytV (rest.take n)) rfl (fun h=>by have:=Hnone.out h;omega) (by rw [a0u,Hl.out,Nat.mul_one]) (Hat.out.below ((Below.refl _ _).alloc (Nat.le_refl _) _)).cells (a0x _) (by unfold maxLen;omega) (by omega) (by simp) ?_))
 intro v w1 hown hgrow
 have hb:Below w.heap.size w w1:=below_grown ((Below.refl _ _).alloc (Nat.le_refl _) _) (by simp) hgrow (fun k hk=>by simp [Value.ownBlock] at hk;omega)
 obtain ⟨bo,c,hv,ho⟩:=c0n (l:=rest.take n) (by simpa using hown) (by rw [Hl.out])
 rw [Hl.out] at hv
 have hh1:w1.heap[p]?=some (.cells #[.slice ao rest.length cap,aB false] 118 (0,0)):=(hb.block p (lt_of_block Hh.out)).trans Hh.out
 obtain ⟨d0,d1,e0,e1⟩:=b0m hh1
 have Ho:=uH ho
 have Hh1:=uH hh1
 have Hb:=uH hb
 rw [hv]
 clear ho hh1 hb hown hgrow hv c0 c1 f0 f1
 go_wp2_with fail
 ·go_ret
  have hrn:rest.length=n:=by omega
  refine ⟨bo,c,rfl,n0e Ho.out _ _ (lt_of_block Hh.out),?_,(Keeps.f0d Hb.out (Nat.le_refl _) (fun _=>False)).trans (Keeps.set _ _ _) (fun _ h=>h.elim) (fun _ _ h=>h)⟩
  exact rr_cut Hh1.out hn hlc hcm hgp Hrow.out Hb.out (by omega) (fun _=>⟨by omega,rfl⟩) (fun h=>by omega)
 ·go_ret
  refine ⟨bo,c,rfl,n0e Ho.out _ _ (lt_of_block Hh.out),?_,(Keeps.f0d Hb.out (Nat.le_refl _) (fun _=>False)).trans (Keeps.set _ _ _) (fun _ h=>h.elim) (fun _ _ h=>h)⟩
  exact rr_cut Hh1.out hn hlc hcm hgp Hrow.out Hb.out rfl (fun h=>by
   rw [Option.map_eq_none_iff] at h
   have:=Hnone.out h
   omega) (fun _=>rfl)
open Go.RowKit
set_option maxRecDepth 20000
theorem i0f {w:World} {p g:Nat} {rest:List UInt8} {bad:Bool} (h:RRAt w p g rest bad):w.cell? ⟨p,1,none⟩=some (aB bad):=by
 obtain ⟨-,ao,cap,hh,-⟩:=h
 exact (b0m hh).2.1
theorem y0u (u:Nat) (hu:u<128 ^ 9):bits BinOp.or IntKind.u64 (u:Int) 9223372036854775808=((u+9223372036854775808:Nat):Int):=by
 have h9:(128:Nat) ^ 9=9223372036854775808:=by decide
 rw [show (9223372036854775808:Int)=((9223372036854775808:Nat):Int) from rfl,bits_or_u64_nat _ _ (by omega) (by omega)]
 congr 1
 rw [show (9223372036854775808:Nat)=2 ^ 63 * 1 from by decide,Nat.or_comm,←Nat.two_pow_add_eq_or_of_lt (by omega)]
 omega
set_option maxRecDepth 40000 in
set_option maxHeartbeats 8000000 in
theorem o0j (p g:Nat) (rest:List UInt8) (bad:Bool) (w:World) (h:RRAt w p g rest bad) (hm:rest.length≤140737488351232) :
 Calls Tryz.prog 60 #[.pointer (some ⟨p,0,none⟩)] w fun e w'=>(∀ n r,numOf rest=some (n,r)→e=.returned (aI aK (n:Nat))∧RRAt w' p g r bad)∧(numOf rest=none→e=.returned (aI aK 0)∧RRAt w' p g [] true)∧Keeps w w' (fun x=>x=p):=by
 cases bad with
 | true =>
  obtain rfl:rest=[]:=h.1 rfl
  have H:=uH h
  clear h
  go_enter Tryz.func60,Tryz.ntmps60
  go_wp2_with fail
  refine wp_loop_rounds 1 ?_
  rw [rounds_succ]
  go_wp2_with fail
  refine (m0w p g [] true 1 w H.out (.inr (by simp))).mono ?_
  rintro e w1 ⟨rfl,hr1,hk1⟩
  have c1:=i0f hr1
  have Hr1:=uH hr1
  clear hr1
  go_wp2_with fail
  go_ret
  exact ⟨fun n r h=>(nomatch h),fun _=>⟨rfl,Hr1.out⟩,hk1⟩
 | false =>
  have H:=uH h
  clear h
  go_enter Tryz.func60,Tryz.ntmps60
  go_wp2_with fail
  go_loopw [3,4] (fun s3 s4 wr=>∃ k u:Nat,k≤rest.length∧k≤9∧s4=aI aK k∧s3=.int .u64 u∧u<128 ^ k∧Hid (numR k u (rest.drop k)=numOf rest)∧Hid (RRAt wr p g (rest.drop k) false)∧Hid (Keeps w wr (fun x=>x=p))) (fun _ s4 _=>10 - (intOf s4).toNat)
  case atStart=>exact ⟨0,0,by omega,by omega,rfl,rfl,by decide,rfl,H,Keeps.refl _ _⟩
  case round =>
   clear H
   obtain ⟨k,u,hk,hk9,rfl,rfl,hu,hst,HR,HK⟩:=hrel
   have Hu:=uH hu
   clear hu
   by_cases hlt:k<rest.length
   ·obtain ⟨c,hc⟩:∃ c,c=rest[k]:=⟨_,rfl⟩
    have hdrop:rest.drop k=c::rest.drop (k+1):=by rw [hc];exact List.drop_eq_getElem_cons hlt
    have hlen1:(rest.drop k).length≤140737488351232:=by rw [List.length_drop];omega
    have Hdrop:=uH hdrop
    have Hraw:=uH (o0i p g (rest.drop k) 1 wr HR.out (by rw [List.length_drop];omega) hlen1)
    clear hc hdrop hlen1
    go_wp2_with fail
    refine Hraw.out.mono ?_
    rintro e w1 ⟨xo,xc,rfl,hox,hr1,hk1⟩
    rw [Hdrop.out] at hox hr1
    simp only [List.take_succ_cons,List.take_zero,List.drop_succ_cons,List.drop_zero] at hox hr1
    obtain ⟨g2,rfl,-,-,hrow⟩:=hox.row (by simp)
    have hx0:w1.cell? ⟨g2,0,none⟩=some (aI .u8 (c.toNat:Int)):=by
     have:=hrow 0 (by simp)
     simpa using this
    have c1:=i0f hr1
    have HR1:=uH hr1
    have HK1:=uH (HK.out.trans hk1 (fun _ h=>h) (fun _ _ h=>h))
    have hc256:(c.toNat:Int)<256:=by have:=c.toNat_lt;omega
    clear hox hr1 hrow hk1 Hraw HR HK
    by_cases h9:k=9
    ·subst h9
     have Hno:Hid (numOf rest=none):=by
      have:=hst.out
      rw [Hdrop.out] at this
      rw [Hid,←this]
      simp only [numR]
      rw [if_pos (.inl (by omega))]
     clear hst
     by_cases h127:(127:Int)<c.toNat
     ·(go_wp2_with fail);(refine (d0r p g _ false _ HR1.out).mono ?_);(rintro e y9 ⟨rfl,hr9,hk9⟩);(have Hr9:=uH hr9);(have Hk9:=uH (HK1.out.trans hk9 (fun _ h=>h) (fun _ _ h=>h)));(clear hr9 hk9);(go_wp2_with fail);go_ret;exact ⟨fun n r h=>(nomatch (Hno.out.symm.trans h)),fun _=>⟨rfl,Hr9.out⟩,Hk9.out⟩
     ·by_cases h1:(1:Int)<c.toNat
      ·(go_wp2_with fail);(refine (d0r p g _ false _ HR1.out).mono ?_);(rintro e y9 ⟨rfl,hr9,hk9⟩);(have Hr9:=uH hr9);(have Hk9:=uH (HK1.out.trans hk9 (fun _ h=>h) (fun _ _ h=>h)));(clear hr9 hk9);(go_wp2_with fail);go_ret;exact ⟨fun n r h=>(nomatch (Hno.out.symm.trans h)),fun _=>⟨rfl,Hr9.out⟩,Hk9.out⟩
      ·by_cases hz:(c.toNat:Int)=0
       ·have hb7:bits BinOp.and IntKind.u8 0 127=0:=by decide
        (go_wp2_with fail);(refine (d0r p g _ false _ HR1.out).mono ?_);(rintro e y9 ⟨rfl,hr9,hk9⟩);(have Hr9:=uH hr9);(have Hk9:=uH (HK1.out.trans hk9 (fun _ h=>h) (fun _ _ h=>h)));(clear hr9 hk9);(go_wp2_with fail);go_ret;exact ⟨fun n r h=>(nomatch (Hno.out.symm.trans h)),fun _=>⟨rfl,Hr9.out⟩,Hk9.out⟩
       ·have hone:(c.toNat:Int)=1:=by omega
        have hb7:bits BinOp.and IntKind.u8 1 127=1:=by decide
        obtain ⟨z,hb9,hz9⟩:∃ z:Nat,bits BinOp.or IntKind.u64 (u:Int) 9223372036854775808=(z:Int)∧(4611686018427387904:Int)<z:=⟨_,y0u u Hu.out,by omega⟩
        (go_wp2_with fail);(refine (d0r p g _ false _ HR1.out).mono ?_);(rintro e y9 ⟨rfl,hr9,hk9⟩);(have Hr9:=uH hr9);(have Hk9:=uH (HK1.out.trans hk9 (fun _ h=>h) (fun _ _ h=>h)));(clear hr9 hk9);(go_wp2_with fail);go_ret;exact ⟨fun n r h=>(nomatch (Hno.out.symm.trans h)),fun _=>⟨rfl,Hr9.out⟩,Hk9.out⟩
    ·have hk8:k≤8:=by omega
     have hk9i:¬(k:Int)=9:=by omega
     have hbd:=m0r k u c (by omega) Hu.out
     have hbs:bits BinOp.and IntKind.u8 (c.toNat:Int) 127=(c.toNat:Int) % 128:=by rw [m0q];omega
     obtain ⟨q,hq⟩:∃ q,q=u+c.toNat % 128 * 128 ^ k:=⟨_,rfl⟩
     rw [←hq] at hbd
     have Hq:=uH hq
     clear hq
     by_cases hz:0<k∧c=0
     ·have Hno:Hid (numOf rest=none):=by
       have:=hst.out
       rw [Hdrop.out] at this
       rw [Hid,←this]
       simp only [numR]
       rw [if_pos (.inr hz)]
      obtain ⟨h0,hcz⟩:=hz
      have h0i:(0:Int)<k:=by omega
      have hc0:(c.toNat:Int)=0:=by rw [hcz];rfl
      clear hcz
      have hb7:bits BinOp.and IntKind.u8 0 127=0:=by decide
      clear hst hbs hbd
      (go_wp2_with fail);(refine (d0r p g _ false _ HR1.out).mono ?_);(rintro e y9 ⟨rfl,hr9,hk9⟩);(have Hr9:=uH hr9);(have Hk9:=uH (HK1.out.trans hk9 (fun _ h=>h) (fun _ _ h=>h)));(clear hr9 hk9);(go_wp2_with fail);go_ret;exact ⟨fun n r h=>(nomatch (Hno.out.symm.trans h)),fun _=>⟨rfl,Hr9.out⟩,Hk9.out⟩
     ·have hgo:¬(9≤k∨(0<k∧c=0)):=by
       rintro (h | h)
       ·omega
       ·exact hz h
      have hstep:¬c.toNat<128→numR (k+1) q (rest.drop (k+1))=numOf rest∧q<128 ^ (k+1):=fun h=>by
       have h1:=hst.out
       rw [Hdrop.out] at h1
       simp only [numR] at h1
       rw [if_neg hgo,if_neg h,←Hq.out] at h1
       exact ⟨h1,by rw [Hq.out];exact n0u k u _ Hu.out (by omega)⟩
      have hend:c.toNat<128→numOf rest=if 4611686018427387904<q then none else some (q,rest.drop (k+1)):=fun h=>by
       have h1:=hst.out
       rw [Hdrop.out] at h1
       simp only [numR] at h1
       rw [if_neg hgo,if_pos h] at h1
       rw [Hq.out,Nat.mod_eq_of_lt h]
       exact h1.symm
      have hc0:0<k→¬(c.toNat:Int)=0:=fun h e=>hz ⟨h,UInt8.toNat_inj.1 (by rw [UInt8.toNat_zero];omega)⟩
      have Hstep:=uH hstep
      have Hend:=uH hend
      clear hstep hend hgo hz hst
      by_cases h0:(0:Int)<k
      all_goals (try have hc0:=hc0 (by omega))
      all_goals (try have hceq:((c.toNat:Int)==0)=false:=by rw [beq_eq_false_iff_ne];exact hc0)
      all_goals by_cases h127:(127:Int)<c.toNat
      ·go_wp2_with fail
       go_roundw
       case rel=>exact ⟨k+1,q,by omega,by omega,by go_num,rfl,(Hstep.out (by omega)).2,(Hstep.out (by omega)).1,HR1,HK1⟩
       case measure=>simp [intOf];omega
      ·by_cases hbig:(4611686018427387904:Int)<q
       ·have Hno:Hid (numOf rest=none):=by rw [Hid,Hend.out (by omega),if_pos (by omega)]
        (go_wp2_with fail);(refine (d0r p g _ false _ HR1.out).mono ?_);(rintro e y9 ⟨rfl,hr9,hk9⟩);(have Hr9:=uH hr9);(have Hk9:=uH (HK1.out.trans hk9 (fun _ h=>h) (fun _ _ h=>h)));(clear hr9 hk9);(go_wp2_with fail);go_ret;exact ⟨fun n r h=>(nomatch (Hno.out.symm.trans h)),fun _=>⟨rfl,Hr9.out⟩,Hk9.out⟩
       ·have hy:numOf rest=some (q,rest.drop (k+1)):=by rw [Hend.out (by omega),if_neg (by omega)]
        have Hy:=uH hy
        clear hy
        (go_wp2_with fail)
        all_goals go_ret
        all_goals refine ⟨fun n r h=>?_,fun h=>(nomatch (Hy.out.symm.trans h)),HK1.out⟩
        all_goals (rw [Hy.out] at h;simp only [Option.some.injEq,Prod.mk.injEq] at h;obtain ⟨rfl,rfl⟩:=h;exact ⟨rfl,HR1.out⟩)
      ·go_wp2_with fail
       go_roundw
       case rel=>exact ⟨k+1,q,by omega,by omega,by go_num,rfl,(Hstep.out (by omega)).2,(Hstep.out (by omega)).1,HR1,HK1⟩
       case measure=>simp [intOf];omega
      ·by_cases hbig:(4611686018427387904:Int)<q
       ·have Hno:Hid (numOf rest=none):=by rw [Hid,Hend.out (by omega),if_pos (by omega)]
        (go_wp2_with fail);(refine (d0r p g _ false _ HR1.out).mono ?_);(rintro e y9 ⟨rfl,hr9,hk9⟩);(have Hr9:=uH hr9);(have Hk9:=uH (HK1.out.trans hk9 (fun _ h=>h) (fun _ _ h=>h)));(clear hr9 hk9);(go_wp2_with fail);go_ret;exact ⟨fun n r h=>(nomatch (Hno.out.symm.trans h)),fun _=>⟨rfl,Hr9.out⟩,Hk9.out⟩
       ·have hy:numOf rest=some (q,rest.drop (k+1)):=by rw [Hend.out (by omega),if_neg (by omega)]
        have Hy:=uH hy
        clear hy
        (go_wp2_with fail)
        all_goals go_ret
        all_goals refine ⟨fun n r h=>?_,fun h=>(nomatch (Hy.out.symm.trans h)),HK1.out⟩
        all_goals (rw [Hy.out] at h;simp only [Option.some.injEq,Prod.mk.injEq] at h;obtain ⟨rfl,rfl⟩:=h;exact ⟨rfl,HR1.out⟩)
   ·have Hno:Hid (numOf rest=none):=by
     have:=hst.out
     rw [List.drop_eq_nil_of_le (by omega)] at this
     rw [Hid,←this]
     rfl
    have hr:=HR.out
    rw [List.drop_eq_nil_of_le (by omega)] at hr
    have Hr:=uH hr
    clear hr HR
    go_wp2_with fail
    refine (m0w p g [] false 1 wr Hr.out (.inr (by simp))).mono ?_
    rintro e w1 ⟨rfl,hr1,hk1⟩
    have c1:=i0f hr1
    have Hr1:=uH hr1
    have Hk1:=uH (HK.out.trans hk1 (fun _ h=>h) (fun _ _ h=>h))
    clear hr1 hk1
    go_wp2_with fail
    go_ret
    exact ⟨fun n r h=>(nomatch (Hno.out.symm.trans h)),fun _=>⟨rfl,Hr1.out⟩,Hk1.out⟩
open Go.RowKit
set_option maxRecDepth 20000
set_option maxHeartbeats 2000000 in
theorem f0t (p g:Nat) (rest:List UInt8) (bad:Bool) (w:World) (h:RRAt w p g rest bad) (hm:rest.length≤140737488351232) :
 Calls Tryz.prog 61 #[.pointer (some ⟨p,0,none⟩)] w fun e w'=>∃ x r' b' ao cap,(x,r',b')=a0q rest bad∧e=.returned (.slice ao x.length cap)∧OwnB w' w.heap.size ao cap x∧RRAt w' p g r' b'∧Keeps w w' (fun x=>x=p):=by
 have Hnum:=uH (o0j p g rest bad w h hm)
 have hb0:=h.1
 clear h
 have Htook:Hid (a0q rest bad=match numOf rest with | none=>([],[],true) | some (n,r)=>if n≤r.length then (r.take n,r.drop n,bad) else ([],[],true)):=by
  unfold Hid a0q bytesOf
  cases numOf rest with
  | none=>rfl
  | some o=>obtain ⟨n,r⟩:=o;simp only;by_cases hc:n≤r.length<;>simp only [hc,if_true,if_false]
 have Hb0:=uH hb0
 clear hb0
 go_enter Tryz.func61,Tryz.ntmps61
 go_wp2_with fail
 refine Hnum.out.mono ?_
 rintro e w1 ⟨hy,hn,hk⟩
 have hs:=hk.size
 cases ho:numOf rest with
 | none =>
  obtain ⟨rfl,hr⟩:=hn ho
  have htook:=Htook.out
  rw [ho] at htook
  have Ht:=uH htook
  have c1:=i0f hr
  have Hr:=uH hr
  clear hy hn hr ho htook
  go_wp2_with fail
  go_ret
  exact ⟨[],[],true,none,0,Ht.out.symm,rfl,h0q _ _,Hr.out,hk⟩
 | some o =>
  obtain ⟨n,r⟩:=o
  have hbf:bad=false:=by
   cases bad with
   | false=>rfl
   | true =>
    have:=Hb0.out rfl
    subst this
    cases ho
  subst hbf
  obtain ⟨rfl,hr⟩:=hy n r ho
  obtain ⟨hl,hnle⟩:=j0d ho
  have htook:=Htook.out
  rw [ho] at htook
  simp only at htook
  have c1:=i0f hr
  by_cases hnr:n≤r.length
  ·rw [if_pos hnr] at htook
   have Ht:=uH htook
   have Hraw:=uH (o0i p g r n w1 hr hnr (by omega))
   clear hy hn hr ho htook
   go_wp2_with fail
   refine Hraw.out.mono ?_
   rintro e w2 ⟨ao,cap,rfl,hown,hr2,hk2⟩
   go_wp2_with fail
   go_ret
   refine ⟨r.take n,r.drop n,false,ao,cap,Ht.out.symm,?_,b0a hown hs,hr2,hk.trans hk2 (fun _ h=>h) (fun _ _ h=>h)⟩
   rw [List.length_take,Nat.min_eq_left hnr];rfl
  ·rw [if_neg hnr] at htook
   have Ht:=uH htook
   have Hraw:=uH (m0w p g r false n w1 hr (.inr (by omega)))
   clear hy hn hr ho htook
   go_wp2_with fail
   refine Hraw.out.mono ?_
   rintro e w2 ⟨rfl,hr2,hk2⟩
   go_wp2_with fail
   go_ret
   exact ⟨[],[],true,none,0,Ht.out.symm,rfl,h0q _ _,hr2,hk.trans hk2 (fun _ h=>h) (fun _ _ h=>h)⟩
open Go.RowKit
set_option maxRecDepth 20000
theorem St.newRR {W w w':World} {L:List Th} {p g:Nat} {rest:List UInt8} (h:St W w L) (hr:RRAt w' p g rest false) (hb:Below w.heap.size w w') (hp:w.heap.size≤p) (hg:w.heap.size≤g):St W w' (thRR p g rest false::L) :=
 h.new hb _ hr (fun x hx=>by
  rcases hx with hx | ⟨hx,-⟩<;>omega)
theorem St.readR {W w w':World} {L:List Th} {p g:Nat} {rest rest':List UInt8} {bad bad':Bool} (h:St W w (thRR p g rest bad::L)) (hr:RRAt w' p g rest' bad') (k:Keeps w w' (fun x=>x=p)) (hl:rest'.length≤rest.length):St W w' (thRR p g rest' bad'::L) :=
 h.step (k.weak (fun _ _ h=>.inl h)) _ hr (fun x hx=>by
  rcases hx with hx | ⟨hx,h1⟩
  ·exact .inl (.inl hx)
  ·exact .inl (.inr ⟨hx,by omega⟩))
theorem v0v (p g:Nat) (rest:List UInt8) (bad:Bool) (k:Nat) (w:World) (h:RRAt w p g (rdSt rest bad k).1 (rdSt rest bad k).2) (hm:rest.length≤140737488351232) :
 Calls Tryz.prog 60 #[.pointer (some ⟨p,0,none⟩)] w fun e w'=>e=.returned (aI aK (a0j rest bad k:Nat))∧RRAt w' p g (rdSt rest bad (k+1)).1 (rdSt rest bad (k+1)).2∧Keeps w w' (fun x=>x=p):=by
 refine (o0j p g _ _ w h (Nat.le_trans (b0f rest bad k) hm)).mono ?_
 rintro e w' ⟨h1,h2,h3⟩
 unfold a0j
 simp only [rdSt]
 unfold numT
 cases ho:numOf (rdSt rest bad k).1 with
 | none=>exact ⟨(h2 ho).1,(h2 ho).2,h3⟩
 | some o =>
  obtain ⟨n,r⟩:=o
  exact ⟨(h1 n r ho).1,(h1 n r ho).2,h3⟩
theorem d0n {rest x r':List UInt8} {bad b':Bool} (h:(x,r',b')=a0q rest bad):x.length≤rest.length∧r'.length≤rest.length:=by
 unfold a0q bytesOf at h
 cases ho:numOf rest with
 | none=>rw [ho] at h;simp at h;obtain ⟨rfl,rfl,-⟩:=h;simp
 | some o =>
  obtain ⟨n,r⟩:=o
  obtain ⟨hl,-⟩:=j0d ho
  rw [ho] at h
  simp only at h
  by_cases hc:n≤r.length
  ·simp only [hc,if_true,Prod.mk.injEq] at h
   obtain ⟨rfl,rfl,-⟩:=h
   simp only [List.length_take,List.length_drop];omega
  ·simp only [hc,if_false,Prod.mk.injEq] at h
   obtain ⟨rfl,rfl,-⟩:=h
   simp
end Go.Proofs.YtogamdaomdoapaaGreat