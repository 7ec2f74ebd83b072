/- Texts put together: OFi, OEn, EqZ, OHm, TakesObj. -/
import Derived.Test.YtogamdaomdoapaaZa01
import Derived.Test.YtogamdaomdoapaaZa03
import Derived.Test.YtogamdaomdoapaaZa06
import Derived.Test.YtogamdaomdoapaaZa07
import Derived.Test.YtogamdaomdoapaaZa08
import Derived.Test.YtogamdaomdoapaaZa10
import Derived.Test.YtogamdaomdoapaaZa13
namespace Go.Proofs.Ytogamdaomdoapaa.O
open Go.RowKit
structure ZnO (w:World) (g o:Nat) (l:List Zn):Prop where
 lt:g<w.heap.size
 cell:∀ i,(h:i<l.length)→∀ j v,(znV l[i])[j]?=some v→w.cell? ⟨g,o+i * 9+j,none⟩=some v
theorem ZnO.grow {w w':World} {g o:Nat} {l:List Zn} (h:ZnO w g o l) (b:Below w.heap.size w w'):ZnO w' g o l :=
 ⟨Nat.lt_of_lt_of_le h.lt b.size,fun i hi j v hv=>(b.cell (p:=⟨g,_,none⟩) h.lt).trans (h.cell i hi j v hv)⟩
theorem _root_.Go.Proofs.Ytogamdaomdoapaa.OwnZ.atO {w:World} {base g cap:Nat} {l:List Zn} (h:OwnZ w base g cap l):ZnO w g 0 l:=⟨h.facts.2.1,fun i hi j v hv=>by rw [Nat.zero_add];exact h.cell i hi j v hv⟩
theorem ZnO.nine {w:World} {g o:Nat} {l:List Zn} (h:ZnO w g o l) (i:Nat) (hi:i<l.length) (z:Zn) (hz:z=l[i]):w.cell? ⟨g,o+i * 9,none⟩=some (.int .i64 z.id)∧w.cell? ⟨g,o+i * 9+1,none⟩=some (.string z.fr)∧w.cell? ⟨g,o+i * 9+2,none⟩=some (.string z.to)∧w.cell? ⟨g,o+i * 9+3,none⟩=some (.int .i64 z.owner)∧w.cell? ⟨g,o+i * 9+4,none⟩=some (.int .i64 z.epoch)∧w.cell? ⟨g,o+i * 9+5,none⟩=some (.int .i64 z.pend)∧w.cell? ⟨g,o+i * 9+6,none⟩=some (.int .i64 z.tt)∧w.cell? ⟨g,o+i * 9+7,none⟩=some (.string z.key)∧w.cell? ⟨g,o+i * 9+8,none⟩=some (.int .i64 z.nw):=by
 subst hz
 exact ⟨h.cell i hi 0 _ rfl,h.cell i hi 1 _ rfl,h.cell i hi 2 _ rfl,h.cell i hi 3 _ rfl,h.cell i hi 4 _ rfl,h.cell i hi 5 _ rfl,h.cell i hi 6 _ rfl,h.cell i hi 7 _ rfl,h.cell i hi 8 _ rfl⟩
theorem findIdx_none {α:Type} {p:α→Bool} {l:List α} (h:∀ j (hj:j<l.length),p l[j]=false):l.findIdx? p=none:=by
 rw [List.findIdx?_eq_none_iff]
 intro x hx
 obtain ⟨j,hj,rfl⟩:=List.getElem_of_mem hx
 exact h j hj
theorem findIdx_at {α:Type} {p:α→Bool} {l:List α} {i:Nat} (hi:i<l.length) (hp:p l[i]=true) (h:∀ j (hj:j<l.length),j<i→p l[j]=false):l.findIdx? p=some i:=by
 rw [List.findIdx?_eq_some_iff_getElem]
 exact ⟨hi,hp,fun j hj=>by rw [h j (by omega) hj];decide⟩
def fz (l:List Zn) (id:Int):Int:=match findZ l id with | none=>-1 | some i=>i
set_option maxHeartbeats 1000000 in
theorem isId_any (z:Zn) (k:Nat) (id:Int) (w:World) (hk:k<w.heap.size) (hc:w.cell? ⟨k,0,none⟩=some (.int .i64 id)) :
 Calls Try.prog 89 #[.agg #[.int .i64 z.id,.string z.fr,.string z.to,.int .i64 z.owner,.int .i64 z.epoch,.int .i64 z.pend,.int .i64 z.tt,.string z.key,.int .i64 z.nw],.pointer (some ⟨k,0,none⟩)] w fun e w'=>e=.returned (.bool (z.id==id))∧Below w.heap.size w w':=by
 go_enter Try.func89,Try.ntmps89
 go_wp2_with fail
 go_ret
 exact ⟨rfl,bg⟩
set_option maxRecDepth 20000 in
set_option maxHeartbeats 2000000 in
theorem indexFunc_any {g o zc:Nat} {l:List Zn} {w:World} (h:ZnO w g o l) (hm:l.length≤1000) (id:Int) (k:Nat) (hk:k<w.heap.size) (hc:w.cell? ⟨k,0,none⟩=some (.int .i64 id)) :
 Calls Try.prog 88 #[.slice (some ⟨g,o,none⟩) l.length zc,.func (.func 89) #[] #[.pointer (some ⟨k,0,none⟩)]] w fun e w'=>e=.returned (.int .i64 (fz l id))∧Below w.heap.size w w':=by
 have Hz:=Lib.hid h
 clear h
 go_enter Try.func88,Try.ntmps88
 go_wp2_with fail
 go_loopw [8] (fun s wr=>∃ i:Nat,s=.int .i64 i∧i≤l.length∧Hid (∀ j (hj:j<l.length),j<i→(l[j].id==id)=false)∧Below w.heap.size w wr) (fun s _=>l.length - (intOf s).toNat)
 case atStart=>exact ⟨0,rfl,by omega,fun j _ hj=>by omega,Below.refl _ _⟩
 case round =>
  obtain ⟨i,rfl,hi,hne,wr_b⟩:=hrel
  by_cases hlt:i<l.length
  ·obtain ⟨z,hz⟩:∃ z,z=l[i]:=⟨_,rfl⟩
   obtain ⟨d0,d1,d2,d3,d4,d5,d6,d7,d8⟩:=(Hz.out.grow wr_b).nine i hlt z hz
   have hs:=wr_b.size
   have hc2:=(wr_b.cell (p:=⟨k,0,none⟩) hk).trans hc
   have Hv:=Lib.hid hz
   clear hz
   go_wp2_with fail
   refine (isId_any z k id _ (by omega) hc2).mono ?_
   by_cases hk:z.id=id
   ·have hkb:(z.id==id)=true:=by rw [beq_iff_eq];exact hk
    rw [hkb]
    rintro e w1 ⟨rfl,w1_b⟩
    clear hk
    go_wp2_with fail
    go_ret
    refine ⟨?_,bg⟩
    rw [fz,findZ,findIdx_at hlt (by rw [←Hv.out];exact hkb) hne.out]
    rfl
   ·have hkb:(z.id==id)=false:=by rw [beq_eq_false_iff_ne];exact hk
    rw [hkb]
    rintro e w1 ⟨rfl,w1_b⟩
    clear hk
    go_wp2_with fail
    go_roundw
    case rel=>exact ⟨i+1,by go_num,by omega,fun j hj hji=>by
     by_cases h:j=i
     ·subst h;rw [←Hv.out];exact hkb
     ·exact hne.out j hj (by omega),bg⟩
    case measure=>simp [intOf];omega
  ·go_wp2_with fail
   go_ret
   refine ⟨?_,wr_b⟩
   rw [fz,findZ,findIdx_none (fun j hj=>hne.out j hj (by omega))]
   rfl
set_option maxRecDepth 20000 in
set_option maxHeartbeats 2000000 in
theorem find_any {g o zc:Nat} {l:List Zn} {w:World} (h:ZnO w g o l) (hm:l.length≤1000) (ver next id:Int) :
 Calls Try.prog 83 #[.agg #[.int .i64 ver,.int .i64 next,.slice (some ⟨g,o,none⟩) l.length zc],.int .i64 id] w fun e w'=>e=.returned (.int .i64 (fz l id))∧Below w.heap.size w w':=by
 have Hz:=Lib.hid h
 clear h
 go_enter Try.func83,Try.ntmps83
 go_wp2_with fail
 (refine calls_name fun wa hwa=>?_;have wa_s0:=sg (w.heap.size+1) hwa;obtain wa_c0:=kk1 hwa (w.heap.size+1) 0 (.int .i64 id);have wa_b:Below w.heap.size w wa:=(by rw [hwa];exact bg);clear hwa)
 refine (indexFunc_any (Hz.out.grow wa_b) hm id (w.heap.size+1) wa_s0 wa_c0).mono ?_
 (rintro e w1 ⟨rfl,w1_h⟩;obtain ⟨w1_hc,w1_hf⟩:=bcell w1_h;have w1_z:=w1_h.size;have w1_b:=wa_b.trans (w1_h.mono (by have:=wa_b.size;omega));have w1_le:=w1_b.size;clear w1_h)
 go_wp2_with fail
 go_ret
 exact ⟨rfl,w1_b⟩
end Go.Proofs.Ytogamdaomdoapaa.O
namespace Go.Proofs.Ytogamdaomdoapaa.O
open Go.RowKit
set_option maxRecDepth 20000
def ZsAt (w:World) (ao:Option Addr) (l:List Zn):Prop:=0<l.length→∃ g o,ao=some ⟨g,o,none⟩∧ZnO w g o l
theorem ZsAt.grow {w w':World} {ao:Option Addr} {l:List Zn} (h:ZsAt w ao l) (b:Below w.heap.size w w'):ZsAt w' ao l:=fun hp=>by
 obtain ⟨g,o,e,hz⟩:=h hp
 exact ⟨g,o,e,hz.grow b⟩
def SzB (m:Mp):Prop:=m.zs.length≤2100∧∀ z∈m.zs,z.fr.size≤20000∧z.to.size≤20000∧z.key.size≤20000
theorem encZ_length (z:Zn) (h:z.fr.size≤20000∧z.to.size≤20000∧z.key.size≤20000):(encZ z).length≤61000:=by
 have h1:=encs_length [z.id]
 have h2:=encs_length [z.owner,z.epoch,z.pend,z.tt]
 have h3:=encs_length [z.nw]
 have h4:=encS_length z.fr
 have h5:=encS_length z.to
 have h6:=encS_length z.key
 unfold encZ
 simp only [List.length_append,List.length_cons,List.length_nil] at h1 h2 h3 ⊢
 omega
theorem encs_take {m:Mp} (h:SzB m) (k:Nat):((m.zs.take k).flatMap encZ).length≤61000 * k:=by
 obtain ⟨-,hz⟩:=h
 generalize m.zs=l at hz
 induction l generalizing k with
 | nil=>simp
 | cons z r ih =>
  cases k with
  | zero=>simp
  | succ k =>
   have h1:=encZ_length z (hz z (by simp))
   have h2:=ih k (fun y hy=>hz y (by simp [hy]))
   simp only [List.take_succ_cons,List.flatMap_cons,List.length_append]
   omega
theorem take_encZ {l:List Zn} {k:Nat} (h:k<l.length):(l.take (k+1)).flatMap encZ=(l.take k).flatMap encZ++encZ l[k]:=by
 rw [List.take_succ_eq_append_getElem h,List.flatMap_append];simp only [List.flatMap_cons,List.flatMap_nil,List.append_nil]
set_option maxHeartbeats 4000000 in
theorem pencM_any (ao:Option Addr) (zc:Nat) (m:Mp) (w:World) (h:ZsAt w ao m.zs) (hs:SzB m) :
 Calls Try.prog 61 #[.agg #[.int .i64 m.ver,.int .i64 m.next,.slice ao m.zs.length zc]] w (FreshB w (encM m)):=by
 have Hz:=Lib.hid h
 have Hs:=Lib.hid hs
 have hcv:=conv_bytes
 obtain ⟨n,hn⟩:∃ n,n=m.zs.length:=⟨_,rfl⟩
 obtain ⟨nx,hnx⟩:∃ nx,nx=m.next:=⟨_,rfl⟩
 obtain ⟨ver,hver⟩:∃ ver,ver=m.ver:=⟨_,rfl⟩
 have hn2:n≤2100:=by rw [hn];exact hs.1
 rw [←hn,←hnx,←hver]
 obtain ⟨hd,hhd⟩:∃ hd,hd=encs [ver,nx,(n:Int)]:=⟨_,rfl⟩
 have hhl:hd.length≤30:=by rw [hhd];exact encs_length _
 have HE:Hid (encM m=hd++m.zs.flatMap encZ):=by unfold encM;rw [hhd,hn,hnx,hver];exact Lib.hid rfl
 have Hn:=Lib.hid hn
 have Hhd:=Lib.hid hhd
 clear h hs hn hnx hver hhd
 go_enter Try.func61,Try.ntmps61
 go_wp2_with fail
 have s0:=((St.start w).objN (.cells #[.int .i64 ver,.int .i64 nx,.slice ao n zc] 60) w.heap.size rfl).newWr (w.heap.size+1) (by simp) w.heap.size
 refine (s0.nums [ver,nx,(n:Int)] (w.heap.size+1+1) 3 (by simp) rfl _ rfl (by simp)).mono ?_
 rintro e w1 ⟨rfl,o1,hS⟩
 have S1:Hid (∃ o',St w w1 [thWr (w.heap.size+1) w.heap.size (hd++(m.zs.take 0).flatMap encZ) o',thObj w.heap.size (.cells #[.int .i64 ver,.int .i64 nx,.slice ao n zc] 60)]):=by
  rw [Hhd.out]
  refine Lib.hid ⟨o1,?_⟩
  simpa using hS
 obtain ⟨hb1,hb2,-⟩:=hS.cells (t:=60) (b:=w.heap.size) (cur:=#[.int .i64 ver,.int .i64 nx,.slice ao n zc]) (by simp)
 clear s0 hS
 go_wp2_with fail
 clear hb1 hb2
 go_loopw [18] (fun s wr=>∃ k:Nat,s=.int .i64 k∧k≤n∧Hid (∃ o',St w wr [thWr (w.heap.size+1) w.heap.size (hd++(m.zs.take k).flatMap encZ) o',thObj w.heap.size (.cells #[.int .i64 ver,.int .i64 nx,.slice ao n zc] 60)])) (fun s _=>n - (intOf s).toNat)
 case atStart=>exact ⟨0,rfl,by omega,S1⟩
 case round =>
  obtain ⟨k,rfl,hk,hS⟩:=hrel
  obtain ⟨o1,hS⟩:=hS.out
  have S2:=Lib.hid hS
  clear S1 hS
  by_cases hlt:k<n
  ·have hl1:k<m.zs.length:=by have:=Hn.out;omega
   obtain ⟨g,o,rfl,hz⟩:=Hz.out (by omega)
   have hgr:g<wr.heap.size:=Nat.lt_of_lt_of_le hz.lt S2.out.b.size
   obtain ⟨f0,f1,f2,f3,f4,f5,f6,f7,f8⟩:=(hz.grow S2.out.b).nine k hl1 _ rfl
   have hsz:=Hs.out.2 m.zs[k] (List.getElem_mem hl1)
   obtain ⟨zid,fr,to,owner,epoch,pend,tt,key,nw,hzk⟩:∃ zid fr to owner epoch pend tt key nw,m.zs[k]=(⟨zid,fr,to,owner,epoch,pend,tt,key,nw⟩:Zn):=⟨_,_,_,_,_,_,_,_,_,rfl⟩
   have htk:=take_encZ hl1
   rw [hzk] at hsz htk f0 f1 f2 f3 f4 f5 f6 f7 f8
   dsimp only at hsz f0 f1 f2 f3 f4 f5 f6 f7 f8
   have hcl:=encs_take Hs.out k
   obtain ⟨cur,hcur⟩:∃ cur,cur=hd++(m.zs.take k).flatMap encZ:=⟨_,rfl⟩
   have hcl2:cur.length≤130000000:=by rw [hcur,List.length_append];omega
   have Htk:Hid (hd++(m.zs.take (k+1)).flatMap encZ=cur++encs [zid]++(encS fr++encS to)++encs [owner,epoch,pend,tt]++encS key++encs [nw]):=by rw [htk,hcur];unfold encZ;exact Lib.hid (by simp only [List.append_assoc])
   rw [←hcur] at S2
   obtain ⟨h1,h2,h3⟩:=hsz
   have l1:=encs_length [zid]
   have l2:=encs_length [owner,epoch,pend,tt]
   have l3:=encs_length [nw]
   have l4:=encS_length fr
   have l5:=encS_length to
   have l6:=encS_length key
   simp only [List.length_cons,List.length_nil] at l1 l2 l3
   have HL:=Lib.hid (⟨l1,l2,l3,l4,l5,l6⟩:_∧_∧_∧_∧_∧_)
   clear hz hzk htk hcl hcur l1 l2 l3 l4 l5 l6
   go_wp2_with fail
   obtain ⟨bx,hbx⟩:∃ bx,bx=wr.heap.size:=⟨_,rfl⟩
   have s3:=(S2.out.objN (.cells #[.int .i64 zid,.string fr,.string to,.int .i64 owner,.int .i64 epoch,.int .i64 pend,.int .i64 tt,.string key,.int .i64 nw] 128) bx hbx).pull (A:=[_])
   rw [←hbx]
   refine (s3.nums [zid] (bx+1) 1 (by simp [hbx]) rfl _ rfl (by simp;omega)).mono ?_
   rintro e w3 ⟨rfl,o3,hS⟩
   have S3:=Lib.hid hS
   obtain ⟨c1,c2,-⟩:=hS.cells (t:=128) (b:=bx) (cur:=#[.int .i64 zid,.string fr,.string to,.int .i64 owner,.int .i64 epoch,.int .i64 pend,.int .i64 tt,.string key,.int .i64 nw]) (by simp)
   clear hS s3 S2 hgr f0 f1 f2 f3 f4 f5 f6 f7 f8 hbx
   have g1:bx<w3.heap.size+1:=by omega
   have g2:bx<w3.heap.size+1+1:=by omega
   go_wp2_with fail
   refine (St.text2 S3.out fr to (by omega) (by omega) (w3.heap.size+1+1) rfl w3.heap.size (w3.heap.size+1) rfl rfl (by have:=HL.out;simp only [List.length_append];omega)).mono ?_
   rintro e w4 ⟨rfl,o4,hS⟩
   have S4:=Lib.hid hS
   obtain ⟨c1,c2,-⟩:=hS.cells (t:=128) (b:=bx) (cur:=#[.int .i64 zid,.string fr,.string to,.int .i64 owner,.int .i64 epoch,.int .i64 pend,.int .i64 tt,.string key,.int .i64 nw]) (by simp)
   clear hS S3 g1 g2
   go_wp2_with fail
   refine (S4.out.nums [owner,epoch,pend,tt] w4.heap.size 4 rfl rfl _ rfl (by have:=HL.out;simp only [List.length_append,List.length_cons,List.length_nil];omega)).mono ?_
   rintro e w5 ⟨rfl,o5,hS⟩
   have S5:=Lib.hid hS
   obtain ⟨c1,c2,-⟩:=hS.cells (t:=128) (b:=bx) (cur:=#[.int .i64 zid,.string fr,.string to,.int .i64 owner,.int .i64 epoch,.int .i64 pend,.int .i64 tt,.string key,.int .i64 nw]) (by simp)
   clear hS S4
   have g1:bx<w5.heap.size+1:=by omega
   go_wp2_with fail
   refine (St.text1 S5.out key (by omega) (w5.heap.size+1) rfl w5.heap.size rfl (by have:=HL.out;simp only [List.length_append];omega)).mono ?_
   rintro e w6 ⟨rfl,o6,hS⟩
   have S6:=Lib.hid hS
   obtain ⟨c1,c2,-⟩:=hS.cells (t:=128) (b:=bx) (cur:=#[.int .i64 zid,.string fr,.string to,.int .i64 owner,.int .i64 epoch,.int .i64 pend,.int .i64 tt,.string key,.int .i64 nw]) (by simp)
   clear hS S5 g1
   go_wp2_with fail
   refine (S6.out.nums [nw] w6.heap.size 1 rfl rfl _ rfl (by have:=HL.out;simp only [List.length_append,List.length_cons,List.length_nil];omega)).mono ?_
   rintro e w7 ⟨rfl,o7,hS⟩
   have S7:Hid (∃ o',St w w7 [thWr (w.heap.size+1) w.heap.size (hd++(m.zs.take (k+1)).flatMap encZ) o',thObj w.heap.size (.cells #[.int .i64 ver,.int .i64 nx,.slice (some ⟨g,o,none⟩) n zc] 60)]):=by
    rw [Htk.out]
    exact Lib.hid ⟨o7,(hS.pull (A:=[_])).drop⟩
   clear hS S6 c1 c2
   go_wp2_with fail
   go_roundw
   case rel=>exact ⟨k+1,by go_num,by omega,S7⟩
   case measure=>simp [intOf];omega
  ·obtain rfl:n=k:=by omega
   have S3:Hid (St w wr [thWr (w.heap.size+1) w.heap.size (encM m) o1,thObj w.heap.size (.cells #[.int .i64 ver,.int .i64 nx,.slice ao n zc] 60)]):=by
    have:=S2.out
    rw [HE.out]
    rwa [show m.zs.take n=m.zs from by rw [Hn.out,List.take_length]] at this
   have hlen:(encM m).length≤140737488351232:=by
    have:=encs_take Hs.out n
    rw [HE.out,List.length_append]
    rw [show m.zs.take n=m.zs from by rw [Hn.out,List.take_length]] at this
    omega
   clear S2
   obtain ⟨X,hX⟩:∃ X,X=encM m:=⟨_,rfl⟩
   rw [←hX] at S3 hlen
   have HX:=Lib.hid hX
   clear hX
   go_wp2_with fail
   refine (out_any (w.heap.size+1) w.heap.size X o1 wr S3.out.head hlen).mono ?_
   rintro e w5 ⟨bo,cap,rfl,ho,hb⟩
   have Ho:=Lib.hid (own_weak ho S3.out.b.size)
   have Hb:=Lib.hid (S3.out.grow hb).b
   clear ho hb
   go_wp2_with fail
   go_ret
   rw [←HX.out]
   exact ⟨bo,cap,rfl,Ho.out,Hb.out⟩
end Go.Proofs.Ytogamdaomdoapaa.O
namespace Go.Proofs.Ytogamdaomdoapaa
open Go.RowKit
def eqZ (a b:Zn):Bool:=decide (a.id=b.id∧a.fr.toList=b.fr.toList∧a.to.toList=b.to.toList∧a.owner=b.owner∧a.epoch=b.epoch∧a.pend=b.pend∧a.tt=b.tt∧a.key.toList=b.key.toList∧a.nw=b.nw)
theorem toList_eq {a b:ByteArray}:a.toList=b.toList↔a=b:=by
 constructor
 ·intro h
  rw [ByteArray.toList_eq,ByteArray.toList_eq] at h
  cases a;cases b;simp at h;rw [h]
 ·rintro rfl;rfl
theorem eqZ_iff (a b:Zn):eqZ a b=decide (a=b):=by
 unfold eqZ
 obtain ⟨a0,a1,a2,a3,a4,a5,a6,a7,a8⟩:=a
 obtain ⟨b0,b1,b2,b3,b4,b5,b6,b7,b8⟩:=b
 simp only [Zn.mk.injEq,toList_eq]
set_option maxHeartbeats 1000000 in
theorem eql_zn (a b:Zn) (w:World) (r:Bool) (hr:eqZ a b=r):(Op.equalIn 10000 128 (.agg #[.int .i64 a.id,.string a.fr,.string a.to,.int .i64 a.owner,.int .i64 a.epoch,.int .i64 a.pend,.int .i64 a.tt,.string a.key,.int .i64 a.nw]) (.agg #[.int .i64 b.id,.string b.fr,.string b.to,.int .i64 b.owner,.int .i64 b.epoch,.int .i64 b.pend,.int .i64 b.tt,.string b.key,.int .i64 b.nw])).run Try.prog w=.ok r w:=by
 subst hr
 unfold eqZ
 go_simp
 by_cases h1:a.id=b.id
 ·by_cases h2:a.fr.toList=b.fr.toList
  ·by_cases h3:a.to.toList=b.to.toList
   ·by_cases h4:a.owner=b.owner
    ·by_cases h5:a.epoch=b.epoch
     ·by_cases h6:a.pend=b.pend
      ·by_cases h7:a.tt=b.tt
       ·by_cases h8:a.key.toList=b.key.toList
        ·by_cases h9:a.nw=b.nw
         ·simp [h1,h2,h3,h4,h5,h6,h7,h8,h9]
         ·simp [h1,h2,h3,h4,h5,h6,h7,h8,h9]
        ·simp [h1,h2,h3,h4,h5,h6,h7,h8]
       ·simp [h1,h2,h3,h4,h5,h6,h7]
      ·simp [h1,h2,h3,h4,h5,h6]
     ·simp [h1,h2,h3,h4,h5]
    ·simp [h1,h2,h3,h4]
   ·simp [h1,h2,h3]
  ·simp [h1,h2]
 ·simp [h1]
end Go.Proofs.Ytogamdaomdoapaa
namespace Go.Proofs.Ytogamdaomdoapaa.O
open Go.RowKit
set_option maxRecDepth 20000
def LtB (l:List Zn):Prop:=l.length≤60∧∀ z∈l,z.fr.size≤60∧z.to.size≤60∧z.key.size≤60
theorem LtB.sz {m:Mp} (h:LtB m.zs):SzB m:=⟨by have:=h.1;omega,fun z hz=>by have:=h.2 z hz;omega⟩
end Go.Proofs.Ytogamdaomdoapaa.O
namespace Go.Proofs.Ytogamdaomdoapaa
open Go.RowKit
set_option maxRecDepth 20000
theorem tookOf_le {rest x r':List UInt8} {bad b':Bool} (h:(x,r',b')=tookOf rest bad):x.length≤rest.length∧r'.length≤rest.length:=by
 unfold tookOf bytesOf at h
 cases ho:numOf rest with
 | none=>rw [ho] at h;simp at h;obtain ⟨rfl,rfl,-⟩:=h;simp
 | some o =>
  obtain ⟨n,r⟩:=o
  obtain ⟨hl,-⟩:=numOf_left ho
  rw [ho] at h
  simp only at h
  by_cases hc:n≤r.length
  ·simp only [hc,if_true,Prod.mk.injEq] at h
   obtain ⟨rfl,rfl,-⟩:=h
   simp only [List.length_take,List.length_drop];omega
  ·simp only [hc,if_false,Prod.mk.injEq] at h
   obtain ⟨rfl,rfl,-⟩:=h
   simp
end Go.Proofs.Ytogamdaomdoapaa