/- Texts put together: OEn, EqZ, OHm, RefRd, TakesObj, RdSt, ODp. -/
import Derived.Test.YtogamdaomdoapaaGreatSa01
import Derived.Test.YtogamdaomdoapaaGreatSa02
import Derived.Test.YtogamdaomdoapaaGreatSa04
import Derived.Test.YtogamdaomdoapaaGreatSa05
import Derived.Test.YtogamdaomdoapaaGreatSa06
import Derived.Test.YtogamdaomdoapaaGreatSa07
import Derived.Test.YtogamdaomdoapaaGreatSa09
namespace Go.Proofs.YtogamdaomdoapaaGreat.O
open Go.RowKit
set_option maxRecDepth 20000
def ZsAt (w:World) (ao:Option Addr) (l:List Zn):Prop:=0<l.length→∃ g o,ao=some ⟨g,o,none⟩∧ZnO w g o l
theorem ZsAt.grow {w w':World} {ao:Option Addr} {l:List Zn} (h:ZsAt w ao l) (b:Below w.heap.size w w'):ZsAt w' ao l:=fun hp=>by
 obtain ⟨g,o,e,hz⟩:=h hp
 exact ⟨g,o,e,hz.grow b⟩
def SzB (m:Mp):Prop:=m.zs.length≤2100∧∀ z∈m.zs,z.fr.size≤20000∧z.to.size≤20000∧z.key.size≤20000
theorem encZ_length (z:Zn) (h:z.fr.size≤20000∧z.to.size≤20000∧z.key.size≤20000):(encZ z).length≤61000:=by
 have h1:=encs_length [z.id]
 have h2:=encs_length [z.owner,z.epoch,z.pend,z.tt]
 have h3:=encs_length [z.nw]
 have h4:=encS_length z.fr
 have h5:=encS_length z.to
 have h6:=encS_length z.key
 unfold encZ
 simp only [List.length_append,List.length_cons,List.length_nil] at h1 h2 h3 ⊢
 omega
theorem encs_take {m:Mp} (h:SzB m) (k:Nat):((m.zs.take k).flatMap encZ).length≤61000 * k:=by
 obtain ⟨-,hz⟩:=h
 generalize m.zs=l at hz
 induction l generalizing k with
 | nil=>simp
 | cons z r ih =>
  cases k with
  | zero=>simp
  | succ k =>
   have h1:=encZ_length z (hz z (by simp))
   have h2:=ih k (fun y hy=>hz y (by simp [hy]))
   simp only [List.take_succ_cons,List.flatMap_cons,List.length_append]
   omega
theorem take_encZ {l:List Zn} {k:Nat} (h:k<l.length):(l.take (k+1)).flatMap encZ=(l.take k).flatMap encZ++encZ l[k]:=by
 rw [List.take_succ_eq_append_getElem h,List.flatMap_append];simp only [List.flatMap_cons,List.flatMap_nil,List.append_nil]
set_option maxHeartbeats 4000000 in
theorem pencM_any (ao:Option Addr) (zc:Nat) (m:Mp) (w:World) (h:ZsAt w ao m.zs) (hs:SzB m) :
 Calls Tryz.prog 115 #[.agg #[.int .i64 m.ver,.int .i64 m.next,.slice ao m.zs.length zc]] w (FreshB w (encM m)):=by
 have Hz:=Lib.hid h
 have Hs:=Lib.hid hs
 have hcv:=conv_bytes
 obtain ⟨n,hn⟩:∃ n,n=m.zs.length:=⟨_,rfl⟩
 obtain ⟨nx,hnx⟩:∃ nx,nx=m.next:=⟨_,rfl⟩
 obtain ⟨ver,hver⟩:∃ ver,ver=m.ver:=⟨_,rfl⟩
 have hn2:n≤2100:=by rw [hn];exact hs.1
 rw [←hn,←hnx,←hver]
 obtain ⟨hd,hhd⟩:∃ hd,hd=encs [ver,nx,(n:Int)]:=⟨_,rfl⟩
 have hhl:hd.length≤30:=by rw [hhd];exact encs_length _
 have HE:Hid (encM m=hd++m.zs.flatMap encZ):=by unfold encM;rw [hhd,hn,hnx,hver];exact Lib.hid rfl
 have Hn:=Lib.hid hn
 have Hhd:=Lib.hid hhd
 clear h hs hn hnx hver hhd
 go_enter Tryz.func115,Tryz.ntmps115
 go_wp2_with fail
 have s0:=((St.start w).objN (.cells #[.int .i64 ver,.int .i64 nx,.slice ao n zc] 44) w.heap.size rfl).newWr (w.heap.size+1) (by simp) w.heap.size
 refine (s0.nums [ver,nx,(n:Int)] (w.heap.size+1+1) 3 (by simp) rfl _ rfl (by simp)).mono ?_
 rintro e w1 ⟨rfl,o1,hS⟩
 have S1:Hid (∃ o',St w w1 [thWr (w.heap.size+1) w.heap.size (hd++(m.zs.take 0).flatMap encZ) o',thObj w.heap.size (.cells #[.int .i64 ver,.int .i64 nx,.slice ao n zc] 44)]):=by
  rw [Hhd.out]
  refine Lib.hid ⟨o1,?_⟩
  simpa using hS
 obtain ⟨hb1,hb2,-⟩:=hS.cells (t:=44) (b:=w.heap.size) (cur:=#[.int .i64 ver,.int .i64 nx,.slice ao n zc]) (by simp)
 clear s0 hS
 go_wp2_with fail
 clear hb1 hb2
 go_loopw [18] (fun s wr=>∃ k:Nat,s=.int .i64 k∧k≤n∧Hid (∃ o',St w wr [thWr (w.heap.size+1) w.heap.size (hd++(m.zs.take k).flatMap encZ) o',thObj w.heap.size (.cells #[.int .i64 ver,.int .i64 nx,.slice ao n zc] 44)])) (fun s _=>n - (intOf s).toNat)
 case atStart=>exact ⟨0,rfl,by omega,S1⟩
 case round =>
  obtain ⟨k,rfl,hk,hS⟩:=hrel
  obtain ⟨o1,hS⟩:=hS.out
  have S2:=Lib.hid hS
  clear S1 hS
  by_cases hlt:k<n
  ·have hl1:k<m.zs.length:=by have:=Hn.out;omega
   obtain ⟨g,o,rfl,hz⟩:=Hz.out (by omega)
   have hgr:g<wr.heap.size:=Nat.lt_of_lt_of_le hz.lt S2.out.b.size
   obtain ⟨f0,f1,f2,f3,f4,f5,f6,f7,f8⟩:=(hz.grow S2.out.b).nine k hl1 _ rfl
   have hsz:=Hs.out.2 m.zs[k] (List.getElem_mem hl1)
   obtain ⟨zid,fr,to,owner,epoch,pend,tt,key,nw,hzk⟩:∃ zid fr to owner epoch pend tt key nw,m.zs[k]=(⟨zid,fr,to,owner,epoch,pend,tt,key,nw⟩:Zn):=⟨_,_,_,_,_,_,_,_,_,rfl⟩
   have htk:=take_encZ hl1
   rw [hzk] at hsz htk f0 f1 f2 f3 f4 f5 f6 f7 f8
   dsimp only at hsz f0 f1 f2 f3 f4 f5 f6 f7 f8
   have hcl:=encs_take Hs.out k
   obtain ⟨cur,hcur⟩:∃ cur,cur=hd++(m.zs.take k).flatMap encZ:=⟨_,rfl⟩
   have hcl2:cur.length≤130000000:=by rw [hcur,List.length_append];omega
   have Htk:Hid (hd++(m.zs.take (k+1)).flatMap encZ=cur++encs [zid]++(encS fr++encS to)++encs [owner,epoch,pend,tt]++encS key++encs [nw]):=by rw [htk,hcur];unfold encZ;exact Lib.hid (by simp only [List.append_assoc])
   rw [←hcur] at S2
   obtain ⟨h1,h2,h3⟩:=hsz
   have l1:=encs_length [zid]
   have l2:=encs_length [owner,epoch,pend,tt]
   have l3:=encs_length [nw]
   have l4:=encS_length fr
   have l5:=encS_length to
   have l6:=encS_length key
   simp only [List.length_cons,List.length_nil] at l1 l2 l3
   have HL:=Lib.hid (⟨l1,l2,l3,l4,l5,l6⟩:_∧_∧_∧_∧_∧_)
   clear hz hzk htk hcl hcur l1 l2 l3 l4 l5 l6
   go_wp2_with fail
   obtain ⟨bx,hbx⟩:∃ bx,bx=wr.heap.size:=⟨_,rfl⟩
   have s3:=(S2.out.objN (.cells #[.int .i64 zid,.string fr,.string to,.int .i64 owner,.int .i64 epoch,.int .i64 pend,.int .i64 tt,.string key,.int .i64 nw] 125) bx hbx).pull (A:=[_])
   rw [←hbx]
   refine (s3.nums [zid] (bx+1) 1 (by simp [hbx]) rfl _ rfl (by simp;omega)).mono ?_
   rintro e w3 ⟨rfl,o3,hS⟩
   have S3:=Lib.hid hS
   obtain ⟨c1,c2,-⟩:=hS.cells (t:=125) (b:=bx) (cur:=#[.int .i64 zid,.string fr,.string to,.int .i64 owner,.int .i64 epoch,.int .i64 pend,.int .i64 tt,.string key,.int .i64 nw]) (by simp)
   clear hS s3 S2 hgr f0 f1 f2 f3 f4 f5 f6 f7 f8 hbx
   have g1:bx<w3.heap.size+1:=by omega
   have g2:bx<w3.heap.size+1+1:=by omega
   go_wp2_with fail
   refine (St.text2 S3.out fr to (by omega) (by omega) (w3.heap.size+1+1) rfl w3.heap.size (w3.heap.size+1) rfl rfl (by have:=HL.out;simp only [List.length_append];omega)).mono ?_
   rintro e w4 ⟨rfl,o4,hS⟩
   have S4:=Lib.hid hS
   obtain ⟨c1,c2,-⟩:=hS.cells (t:=125) (b:=bx) (cur:=#[.int .i64 zid,.string fr,.string to,.int .i64 owner,.int .i64 epoch,.int .i64 pend,.int .i64 tt,.string key,.int .i64 nw]) (by simp)
   clear hS S3 g1 g2
   go_wp2_with fail
   refine (S4.out.nums [owner,epoch,pend,tt] w4.heap.size 4 rfl rfl _ rfl (by have:=HL.out;simp only [List.length_append,List.length_cons,List.length_nil];omega)).mono ?_
   rintro e w5 ⟨rfl,o5,hS⟩
   have S5:=Lib.hid hS
   obtain ⟨c1,c2,-⟩:=hS.cells (t:=125) (b:=bx) (cur:=#[.int .i64 zid,.string fr,.string to,.int .i64 owner,.int .i64 epoch,.int .i64 pend,.int .i64 tt,.string key,.int .i64 nw]) (by simp)
   clear hS S4
   have g1:bx<w5.heap.size+1:=by omega
   go_wp2_with fail
   refine (St.text1 S5.out key (by omega) (w5.heap.size+1) rfl w5.heap.size rfl (by have:=HL.out;simp only [List.length_append];omega)).mono ?_
   rintro e w6 ⟨rfl,o6,hS⟩
   have S6:=Lib.hid hS
   obtain ⟨c1,c2,-⟩:=hS.cells (t:=125) (b:=bx) (cur:=#[.int .i64 zid,.string fr,.string to,.int .i64 owner,.int .i64 epoch,.int .i64 pend,.int .i64 tt,.string key,.int .i64 nw]) (by simp)
   clear hS S5 g1
   go_wp2_with fail
   refine (S6.out.nums [nw] w6.heap.size 1 rfl rfl _ rfl (by have:=HL.out;simp only [List.length_append,List.length_cons,List.length_nil];omega)).mono ?_
   rintro e w7 ⟨rfl,o7,hS⟩
   have S7:Hid (∃ o',St w w7 [thWr (w.heap.size+1) w.heap.size (hd++(m.zs.take (k+1)).flatMap encZ) o',thObj w.heap.size (.cells #[.int .i64 ver,.int .i64 nx,.slice (some ⟨g,o,none⟩) n zc] 44)]):=by
    rw [Htk.out]
    exact Lib.hid ⟨o7,(hS.pull (A:=[_])).drop⟩
   clear hS S6 c1 c2
   go_wp2_with fail
   go_roundw
   case rel=>exact ⟨k+1,by go_num,by omega,S7⟩
   case measure=>simp [intOf];omega
  ·obtain rfl:n=k:=by omega
   have S3:Hid (St w wr [thWr (w.heap.size+1) w.heap.size (encM m) o1,thObj w.heap.size (.cells #[.int .i64 ver,.int .i64 nx,.slice ao n zc] 44)]):=by
    have:=S2.out
    rw [HE.out]
    rwa [show m.zs.take n=m.zs from by rw [Hn.out,List.take_length]] at this
   have hlen:(encM m).length≤140737488351232:=by
    have:=encs_take Hs.out n
    rw [HE.out,List.length_append]
    rw [show m.zs.take n=m.zs from by rw [Hn.out,List.take_length]] at this
    omega
   clear S2
   obtain ⟨X,hX⟩:∃ X,X=encM m:=⟨_,rfl⟩
   rw [←hX] at S3 hlen
   have HX:=Lib.hid hX
   clear hX
   go_wp2_with fail
   refine (out_any (w.heap.size+1) w.heap.size X o1 wr S3.out.head hlen).mono ?_
   rintro e w5 ⟨bo,cap,rfl,ho,hb⟩
   have Ho:=Lib.hid (own_weak ho S3.out.b.size)
   have Hb:=Lib.hid (S3.out.grow hb).b
   clear ho hb
   go_wp2_with fail
   go_ret
   rw [←HX.out]
   exact ⟨bo,cap,rfl,Ho.out,Hb.out⟩
end Go.Proofs.YtogamdaomdoapaaGreat.O
namespace Go.Proofs.YtogamdaomdoapaaGreat
open Go.RowKit
def eqZ (a b:Zn):Bool:=decide (a.id=b.id∧a.fr.toList=b.fr.toList∧a.to.toList=b.to.toList∧a.owner=b.owner∧a.epoch=b.epoch∧a.pend=b.pend∧a.tt=b.tt∧a.key.toList=b.key.toList∧a.nw=b.nw)
theorem toList_eq {a b:ByteArray}:a.toList=b.toList↔a=b:=by
 constructor
 ·intro h
  rw [ByteArray.toList_eq,ByteArray.toList_eq] at h
  cases a;cases b;simp at h;rw [h]
 ·rintro rfl;rfl
theorem eqZ_iff (a b:Zn):eqZ a b=decide (a=b):=by
 unfold eqZ
 obtain ⟨a0,a1,a2,a3,a4,a5,a6,a7,a8⟩:=a
 obtain ⟨b0,b1,b2,b3,b4,b5,b6,b7,b8⟩:=b
 simp only [Zn.mk.injEq,toList_eq]
set_option maxHeartbeats 1000000 in
theorem eql_zn (a b:Zn) (w:World) (r:Bool) (hr:eqZ a b=r):(Op.equalIn 10000 125 (.agg #[.int .i64 a.id,.string a.fr,.string a.to,.int .i64 a.owner,.int .i64 a.epoch,.int .i64 a.pend,.int .i64 a.tt,.string a.key,.int .i64 a.nw]) (.agg #[.int .i64 b.id,.string b.fr,.string b.to,.int .i64 b.owner,.int .i64 b.epoch,.int .i64 b.pend,.int .i64 b.tt,.string b.key,.int .i64 b.nw])).run Tryz.prog w=.ok r w:=by
 subst hr
 unfold eqZ
 go_simp
 by_cases h1:a.id=b.id
 ·by_cases h2:a.fr.toList=b.fr.toList
  ·by_cases h3:a.to.toList=b.to.toList
   ·by_cases h4:a.owner=b.owner
    ·by_cases h5:a.epoch=b.epoch
     ·by_cases h6:a.pend=b.pend
      ·by_cases h7:a.tt=b.tt
       ·by_cases h8:a.key.toList=b.key.toList
        ·by_cases h9:a.nw=b.nw
         ·simp [h1,h2,h3,h4,h5,h6,h7,h8,h9]
         ·simp [h1,h2,h3,h4,h5,h6,h7,h8,h9]
        ·simp [h1,h2,h3,h4,h5,h6,h7,h8]
       ·simp [h1,h2,h3,h4,h5,h6,h7]
      ·simp [h1,h2,h3,h4,h5,h6]
     ·simp [h1,h2,h3,h4,h5]
    ·simp [h1,h2,h3,h4]
   ·simp [h1,h2,h3]
  ·simp [h1,h2]
 ·simp [h1]
end Go.Proofs.YtogamdaomdoapaaGreat
namespace Go.Proofs.YtogamdaomdoapaaGreat.O
open Go.RowKit
set_option maxRecDepth 20000
def LtB (l:List Zn):Prop:=l.length≤60∧∀ z∈l,z.fr.size≤60∧z.to.size≤60∧z.key.size≤60
theorem LtB.sz {m:Mp} (h:LtB m.zs):SzB m:=⟨by have:=h.1;omega,fun z hz=>by have:=h.2 z hz;omega⟩
end Go.Proofs.YtogamdaomdoapaaGreat.O
namespace Go.Proofs.YtogamdaomdoapaaGreat
open Go.RowKit
set_option maxRecDepth 20000
def RRAt (w:World) (p g:Nat) (rest:List UInt8) (bad:Bool):Prop:=(bad=true→rest=[])∧∃ ao cap,w.heap[p]?=some (.cells #[.slice ao rest.length cap,.bool bad] 118 (0,0))∧rest.length≤cap∧cap≤9223372036854775807∧(ao=none→rest.length=0∧cap=0)∧g≠p∧(0<rest.length→∃ off,ao=some ⟨g,off,none⟩∧g<w.heap.size∧BRow w g off rest)
theorem RRAt.stay {w w':World} {p g:Nat} {rest:List UInt8} {bad:Bool} {S:Nat→Prop} (h:RRAt w p g rest bad) (k:Keeps w w' S) (hp:¬S p) (hg:0<rest.length→¬S g):RRAt w' p g rest bad:=by
 obtain ⟨h0,ao,cap,h1,h2,h3,h4,h5,h6⟩:=h
 refine ⟨h0,ao,cap,(k.block p (lt_of_block h1) hp).trans h1,h2,h3,h4,h5,fun hl=>?_⟩
 obtain ⟨off,e,hlt,hr⟩:=h6 hl
 exact ⟨off,e,Nat.lt_of_lt_of_le hlt k.size,hr.keeps hlt k (hg hl)⟩
theorem RRAt.lt {w:World} {p g:Nat} {rest:List UInt8} {bad:Bool} (h:RRAt w p g rest bad):p<w.heap.size:=by
 obtain ⟨-,ao,cap,h1,-⟩:=h
 exact lt_of_block h1
theorem RRAt.glt {w:World} {p g:Nat} {rest:List UInt8} {bad:Bool} (h:RRAt w p g rest bad) (hl:0<rest.length):g<w.heap.size:=by
 obtain ⟨-,ao,cap,-,-,-,-,-,h6⟩:=h
 obtain ⟨off,e,hlt,-⟩:=h6 hl
 exact hlt
end Go.Proofs.YtogamdaomdoapaaGreat
namespace Go.Proofs.YtogamdaomdoapaaGreat
open Go.RowKit
set_option maxRecDepth 20000
theorem tookOf_le {rest x r':List UInt8} {bad b':Bool} (h:(x,r',b')=tookOf rest bad):x.length≤rest.length∧r'.length≤rest.length:=by
 unfold tookOf bytesOf at h
 cases ho:numOf rest with
 | none=>rw [ho] at h;simp at h;obtain ⟨rfl,rfl,-⟩:=h;simp
 | some o =>
  obtain ⟨n,r⟩:=o
  obtain ⟨hl,-⟩:=numOf_left ho
  rw [ho] at h
  simp only at h
  by_cases hc:n≤r.length
  ·simp only [hc,if_true,Prod.mk.injEq] at h
   obtain ⟨rfl,rfl,-⟩:=h
   simp only [List.length_take,List.length_drop];omega
  ·simp only [hc,if_false,Prod.mk.injEq] at h
   obtain ⟨rfl,rfl,-⟩:=h
   simp
end Go.Proofs.YtogamdaomdoapaaGreat
namespace Go.Proofs.YtogamdaomdoapaaGreat
open Go.RowKit
set_option maxRecDepth 20000
theorem set_objF {w:World} {b o:Nat} {cur:Array Value} {t:TypeId} {fr:Nat × Nat} {v:Value} (h:w.heap[b]?=some (.cells cur t fr)):(w.setCell ⟨b,o,none⟩ v).heap[b]?=some (.cells (cur.setIfInBounds o v) t fr):=by
 simp [World.setCell,Array.getElem?_modify,h]
theorem St.setObj {W w:World} {L:List Th} {b:Nat} {cur:Array Value} {t:TypeId} (h:St W w (thObj b (.cells cur t (0,0))::L)) (o:Nat) (v:Value):St W (w.setCell ⟨b,o,none⟩ v) (thObj b (.cells (cur.setIfInBounds o v) t (0,0))::L) :=
 h.step (Keeps.set w ⟨b,o,none⟩ v) _ (set_objF h.head) (fun _ hx=>.inl hx)
abbrev Ob:=Nat × Array Value × TypeId
def thOb (x:Ob):Th:=thObj x.1 (.cells x.2.1 x.2.2 (0,0))
def putOb:List Ob→Nat→Nat→Value→List Ob
 | [],_,_,_=>[]
 | x::r,0,o,v=>(x.1,x.2.1.setIfInBounds o v,x.2.2)::r
 | x::r,i+1,o,v=>x::putOb r i o v
def putObs (O:List Ob) (ps:List (Nat × Nat)) (val:Nat→Nat):Nat→List Ob
 | 0=>O
 | k+1=>match ps[k]? with
  | some q=>putOb (putObs O ps val k) q.1 q.2 (.int .i64 (val k:Nat))
  | none=>putObs O ps val k
def blk (O:List Ob) (i:Nat):Nat:=(O.map (·.1)).getD i 0
def adOf (O:List Ob) (q:Nat × Nat):Option Addr:=some ⟨blk O q.1,q.2,none⟩
theorem putOb_fst:∀ (O:List Ob) (i o:Nat) (v:Value),(putOb O i o v).map (·.1)=O.map (·.1)
 | [],_,_,_=>rfl
 | _::_,0,_,_=>rfl
 | x::r,i+1,o,v=>by simp only [putOb,List.map_cons,putOb_fst r i o v]
theorem putObs_fst (O:List Ob) (ps:List (Nat × Nat)) (val:Nat→Nat) (k:Nat):(putObs O ps val k).map (·.1)=O.map (·.1):=by
 induction k with
 | zero=>rfl
 | succ k ih =>
  simp only [putObs]
  split
  ·rw [putOb_fst,ih]
  ·exact ih
theorem blk_mem {O:List Ob} {i:Nat} (h:i<O.length):∃ x∈O,x.1=blk O i:=by
 refine ⟨O[i],List.getElem_mem h,?_⟩
 simp [blk,List.getD,h]
theorem putOb_heap:∀ {O:List Ob} {w:World} (_:(O.map (·.1)).Nodup) (_:∀ x∈O,w.heap[x.1]?=some (.cells x.2.1 x.2.2 (0,0))) (i o:Nat) (v:Value) (_:i<O.length),∀ x∈putOb O i o v,(w.setCell ⟨blk O i,o,none⟩ v).heap[x.1]?=some (.cells x.2.1 x.2.2 (0,0))
 | [],_,_,_,_,_,_,hi=>by simp at hi
 | x::r,w,hd,h,0,o,v,_=>by
  intro y hy
  simp only [putOb,List.mem_cons] at hy
  rcases hy with rfl | hy
  ·exact set_objF (h x (by simp))
  ·have hne:y.1≠x.1:=fun e=>(List.nodup_cons.1 hd).1 (by show x.1∈_;rw [←e];exact List.mem_map_of_mem hy)
   exact (Below.heap_setCell _ _ _ _ hne).trans (h y (by simp [hy]))
 | x::r,w,hd,h,i+1,o,v,hi=>by
  intro y hy
  have hi2:i<r.length:=by simpa using hi
  have hb:blk (x::r) (i+1)=blk r i:=by simp [blk]
  rw [hb]
  simp only [putOb,List.mem_cons] at hy
  rcases hy with rfl | hy
  ·have hne:y.1≠blk r i:=fun e=>by
    obtain ⟨z,hz,e2⟩:=blk_mem hi2
    exact (List.nodup_cons.1 hd).1 (by show y.1∈_;rw [e,←e2];exact List.mem_map_of_mem hz)
   exact (Below.heap_setCell _ _ _ _ hne).trans (h y (by simp))
  ·exact putOb_heap (List.nodup_cons.1 hd).2 (fun z hz=>h z (by simp [hz])) i o v hi2 y hy
theorem blk_fst {O O':List Ob} (h:O.map (·.1)=O'.map (·.1)) (i:Nat):blk O i=blk O' i:=by unfold blk;rw [h]
theorem putObs_heap {O:List Ob} {w:World} (hd:(O.map (·.1)).Nodup) (h:∀ x∈O,w.heap[x.1]?=some (.cells x.2.1 x.2.2 (0,0))) (ps:List (Nat × Nat)) (hps:∀ q∈ps,q.1<O.length) (val:Nat→Nat) (k:Nat):∀ x∈putObs O ps val k,(setPs w (ps.map (adOf O)) val k).heap[x.1]?=some (.cells x.2.1 x.2.2 (0,0)):=by
 induction k with
 | zero=>exact h
 | succ k ih =>
  simp only [putObs,setPs,List.getElem?_map]
  cases hq:ps[k]? with
  | none=>exact ih
  | some q =>
   simp only [Option.map_some,adOf]
   have hf:=putObs_fst O ps val k
   rw [←blk_fst hf q.1]
   have hl:=congrArg List.length hf
   simp only [List.length_map] at hl
   exact putOb_heap (by rw [hf];exact hd) ih q.1 q.2 _ (by rw [hl];exact hps q (List.mem_of_getElem? hq))
theorem Ths.obs {B:Nat} {w:World}:∀ {O:List Ob} {L:List Th},Ths B w (O.map thOb++L)→(O.map (·.1)).Nodup∧(∀ x∈O,w.heap[x.1]?=some (.cells x.2.1 x.2.2 (0,0)))∧(∀ x∈O,B≤x.1)∧(∀ x∈O,∀ u∈L,¬u.F x.1)∧Ths B w L
 | [],L,h=>⟨by simp,by simp,by simp,by simp,h⟩
 | x::r,L,h=>by
  obtain ⟨h1,h2,h3,h4⟩:=h
  obtain ⟨g1,g2,g3,g4,g5⟩:=Ths.obs (O:=r) h4
  refine ⟨?_,?_,?_,?_,g5⟩
  ·rw [List.map_cons,List.nodup_cons]
   refine ⟨fun hm=>?_,g1⟩
   obtain ⟨y,hy,e⟩:=List.mem_map.1 hm
   exact h3 (thOb y) (List.mem_append.2 (.inl (List.mem_map.2 ⟨y,hy,rfl⟩))) x.1 rfl e.symm
  ·intro y hy
   rcases List.mem_cons.1 hy with rfl | hy
   ·exact h1
   ·exact g2 y hy
  ·intro y hy
   rcases List.mem_cons.1 hy with rfl | hy
   ·exact h2 _ rfl
   ·exact g3 y hy
  ·intro y hy u hu
   rcases List.mem_cons.1 hy with rfl | hy
   ·exact h3 u (by simp [hu]) y.1 rfl
   ·exact g4 y hy u hu
theorem Ths.mkObs {B:Nat} {w:World}:∀ {O:List Ob} {L:List Th},(O.map (·.1)).Nodup→(∀ x∈O,w.heap[x.1]?=some (.cells x.2.1 x.2.2 (0,0)))→(∀ x∈O,B≤x.1)→(∀ x∈O,∀ u∈L,¬u.F x.1)→Ths B w L→Ths B w (O.map thOb++L)
 | [],_,_,_,_,_,h=>h
 | x::r,L,h1,h2,h3,h4,h5=>by
  rw [List.map_cons,List.nodup_cons] at h1
  refine ⟨h2 x (by simp),fun y e=>?_,fun u hu y e huy=>?_,Ths.mkObs h1.2 (fun y hy=>h2 y (by simp [hy])) (fun y hy=>h3 y (by simp [hy])) (fun y hy=>h4 y (by simp [hy])) h5⟩
  ·have e':y=x.1:=e
   rw [e'];exact h3 x (by simp)
  ·have e':y=x.1:=e
   subst e'
   rcases List.mem_append.1 hu with hu | hu
   ·obtain ⟨z,hz,rfl⟩:=List.mem_map.1 hu
    have:x.1=z.1:=huy
    exact h1.1 (by rw [this];exact List.mem_map_of_mem hz)
   ·exact h4 x (by simp) u hu huy
theorem Keeps.join {a b:World} {S T:Nat→Prop} (h:Keeps a b S) (hS:∀ x,S x→T x):Keeps a b T:=⟨h.os,h.tape,h.output,h.size,fun k hk hn=>h.block k hk fun s=>hn (hS k s)⟩
set_option maxHeartbeats 1000000 in
theorem St.readNums {W w:World} {L:List Th} {p g:Nat} {rest:List UInt8} {bad:Bool} {O:List Ob} (h:St W w (thRd p g rest bad::(O.map thOb++L))) (hm:rest.length≤140737488351232) (ps:List (Nat × Nat)) (hps:∀ q∈ps,∃ x v,O[q.1]?=some x∧x.2.1[q.2]?=some v) (s k:Nat) (hs:s=w.heap.size) (hk:k=ps.length) (hl:ps.length≤1000) (cur:Array Value) (T:TypeId) (hc:cur=(ps.map fun q=>Value.pointer (adOf O q)).toArray) :
 Calls Tryz.prog 49 #[.pointer (some ⟨p,0,none⟩),.slice (some ⟨s,0,none⟩) k k] (w.alloc (.cells cur T)) fun e w'=>e=.returned (.tuple #[])∧St W w' (thRd p g (rdSt rest bad k).1 (rdSt rest bad k).2::((putObs O ps (rdVal rest bad) k).map thOb++L)):=by
 subst hs hk
 have hlt:∀ q∈ps,q.1<O.length:=fun q hq=>by
  obtain ⟨x,v,hx,-⟩:=hps q hq
  exact (List.getElem?_eq_some_iff.1 hx).1
 have hr:RdAt w p g rest bad:=h.head
 have hp:=hr.lt
 have hW:=h.b.size
 have hg:St W (w.alloc (.cells cur T)) (thRd p g rest bad::(O.map thOb++L)):=h.grow (below_allocO _ _)
 obtain ⟨o1,o2,o3,o4,o5⟩:=Ths.obs hg.t.2.2.2
 obtain ⟨-,p2,-,-,-⟩:=Ths.obs h.t.2.2.2
 have hdis:=hg.t.2.2.1
 have hOp:∀ x∈O,x.1≠p∧(0<rest.length→x.1≠g):=fun x hx=>by
  have hu:thOb x∈O.map thOb++L:=List.mem_append.2 (.inl (List.mem_map.2 ⟨x,hx,rfl⟩))
  exact ⟨fun e=>hdis _ hu p (.inl rfl) e.symm,fun hl e=>hdis _ hu g (.inr ⟨rfl,hl⟩) e.symm⟩
 have hlen:(ps.map (adOf O)).length=ps.length:=by simp
 have hcall:=rdnums_ptrs p g w.heap.size ps.length rest bad (ps.map (adOf O)) (w.alloc (.cells cur T)) hg.head hm (by rw [hlen];exact hl)
  (fun i hi=>by
   rw [hlen] at hi
   rw [(cells_of_obj (heap_new w (.cells cur T))).1,hc]
   simp [hi])
  (by simp) (by omega)
  (fun a ha=>by
   obtain ⟨q,hq,e⟩:=List.mem_map.1 ha
   simp only [adOf,Option.some.injEq] at e
   obtain ⟨x,v,hx,hv⟩:=hps q hq
   have hxm:=List.mem_of_getElem? hx
   have hbx:blk O q.1=x.1:=by simp [blk,List.getD,hx]
   have hab:a=⟨x.1,q.2,none⟩:=by rw [←e,hbx]
   subst hab
   have hcx:=cells_of_obj (o2 x hxm)
   refine ⟨(hOp x hxm).1,?_,(hOp x hxm).2,⟨v,by rw [hcx.1];exact hv⟩,hcx.2 _⟩
   have:=lt_of_block (p2 x hxm)
   simp only;omega)
 rw [hlen] at hcall
 refine hcall.mono ?_
 rintro e w' ⟨rfl,hr2,hk2⟩
 refine ⟨rfl,?_⟩
 have hsp:=setPs_keeps (w.alloc (.cells cur T)) (ps.map (adOf O)) (rdVal rest bad) ps.length
 have hfst:=putObs_fst O ps (rdVal rest bad) ps.length
 have hmemO:∀ x∈putObs O ps (rdVal rest bad) ps.length,∃ y∈O,y.1=x.1:=fun x hx=>by
  have:x.1∈(putObs O ps (rdVal rest bad) ps.length).map (·.1):=List.mem_map_of_mem hx
  rw [hfst] at this
  obtain ⟨y,hy,e⟩:=List.mem_map.1 this
  exact ⟨y,hy,e⟩
 have hK:Keeps (w.alloc (.cells cur T)) w' (fun x=>x=p∨∃ y∈O,y.1=x):=by
  refine hsp.trans hk2 (fun x ⟨a,ha,e⟩=>?_) (fun x _ e=>.inl e)
  obtain ⟨q,hq,e2⟩:=List.mem_map.1 ha
  simp only [adOf,Option.some.injEq] at e2
  obtain ⟨y,hy,e3⟩:=blk_mem (hlt q hq)
  exact .inr ⟨y,hy,by rw [←e,←e2];exact e3⟩
 have hL5:Ths W.heap.size w' L:=o5.keep hK (fun t ht x hx hS=>by
  rcases hS with rfl | ⟨y,hy,rfl⟩
  ·exact hdis t (by simp [ht]) x (.inl rfl) hx
  ·exact o4 y hy t ht hx)
 refine ⟨hg.b.trans (hK.below (fun x hx=>?_) hg.b.size),hr2,fun x hx=>?_,fun u hu x hx hux=>?_,Ths.mkObs (by rw [hfst];exact o1) (fun x hx=>?_) (fun x hx=>?_) (fun x hx u hu=>?_) hL5⟩
 ·rcases hx with rfl | ⟨y,hy,rfl⟩
  ·exact hg.t.2.1 x (.inl rfl)
  ·exact o3 y hy
 ·rcases hx with rfl | ⟨rfl,hx⟩
  ·exact hg.t.2.1 x (.inl rfl)
  ·exact hg.t.2.1 x (.inr ⟨rfl,Nat.lt_of_lt_of_le hx (rdSt_le rest bad _)⟩)
 ·have hx2:(thRd p g rest bad).F x:=by
   rcases hx with rfl | ⟨rfl,hx⟩
   ·exact .inl rfl
   ·exact .inr ⟨rfl,Nat.lt_of_lt_of_le hx (rdSt_le rest bad _)⟩
  rcases List.mem_append.1 hu with hu | hu
  ·obtain ⟨z,hz,rfl⟩:=List.mem_map.1 hu
   obtain ⟨y,hy,e⟩:=hmemO z hz
   exact hdis (thOb y) (List.mem_append.2 (.inl (List.mem_map.2 ⟨y,hy,rfl⟩))) x hx2 (by
    have:x=z.1:=hux
    show x=y.1
    rw [e];exact this)
  ·exact hdis u (by simp [hu]) x hx2 hux
 ·have h1:=putObs_heap o1 o2 ps hlt (rdVal rest bad) ps.length x hx
  obtain ⟨y,hy,e⟩:=hmemO x hx
  rw [hk2.block x.1 (lt_of_block h1) (by rw [←e];exact (hOp y hy).1)]
  exact h1
 ·obtain ⟨y,hy,e⟩:=hmemO x hx
  rw [←e];exact o3 y hy
 ·obtain ⟨y,hy,e⟩:=hmemO x hx
  rw [←e];exact o4 y hy u hu
theorem St.readNum {W w:World} {L:List Th} {p g:Nat} {rest:List UInt8} {bad:Bool} (h:St W w (thRd p g rest bad::L)) (hm:rest.length≤140737488351232) :
 Calls Tryz.prog 81 #[.pointer (some ⟨p,0,none⟩)] w fun e w'=>e=.returned (.int .i64 ((numT rest bad).1:Nat))∧St W w' (thRd p g (numT rest bad).2.1 (numT rest bad).2.2::L):=by
 refine (rdnum_t p g rest bad w h.head hm).mono ?_
 rintro e w' ⟨rfl,hr,hk⟩
 exact ⟨rfl,h.read hr hk (numT_le _ _).1⟩
theorem St.readBytes {W w:World} {L:List Th} {p g:Nat} {rest:List UInt8} {bad:Bool} (h:St W w (thRd p g rest bad::L)) (hm:rest.length≤140737488351232) :
 Calls Tryz.prog 50 #[.pointer (some ⟨p,0,none⟩)] w fun e w'=>∃ ao cap,e=.returned (.slice ao (tookOf rest bad).1.length cap)∧OwnB w' w.heap.size ao cap (tookOf rest bad).1∧St W w' (thRd p g (tookOf rest bad).2.1 (tookOf rest bad).2.2::L):=by
 refine (rdbytes_any p g rest bad w h.head hm).mono ?_
 rintro e w' ⟨x,r',b',ao,cap,ht,rfl,ho,hr,hk⟩
 rw [←ht]
 exact ⟨ao,cap,rfl,ho,h.read hr hk (tookOf_le ht).2⟩
end Go.Proofs.YtogamdaomdoapaaGreat
namespace Go.Proofs.YtogamdaomdoapaaGreat.O
open Go.RowKit
set_option maxRecDepth 20000
structure ZIs (r:List UInt8) (b:Bool) (zid:Nat) (fr to:List UInt8) (owner epoch pend tt:Nat) (key:List UInt8) (nw:Nat) (r1:List UInt8) (b1:Bool) (r2:List UInt8) (b2:Bool) (r3:List UInt8) (b3:Bool) (r4:List UInt8) (b4:Bool) (r5:List UInt8) (b5:Bool) (r6:List UInt8) (b6:Bool):Prop where
 e1:numT r b=(zid,r1,b1)
 e2:tookOf r1 b1=(fr,r2,b2)
 e3:tookOf r2 b2=(to,r3,b3)
 v0:owner=rdVal r3 b3 0
 v1:epoch=rdVal r3 b3 1
 v2:pend=rdVal r3 b3 2
 v3:tt=rdVal r3 b3 3
 e4:rdSt r3 b3 4=(r4,b4)
 e5:tookOf r4 b4=(key,r5,b5)
 e6:numT r5 b5=(nw,r6,b6)
 l1:r1.length≤r.length
 l2:r2.length≤r.length
 l3:r3.length≤r.length
 l4:r4.length≤r.length
 l5:r5.length≤r.length
 l6:r6.length≤r.length
 k1:fr.length≤r.length
 k2:to.length≤r.length
 k3:key.length≤r.length
 nb:nw≤4611686018427387904
 rd:rdZ (r,b)=⟨zid,txt fr,txt to,owner,epoch,pend,tt,txt key,nw⟩
 st:s6 (r,b)=(r6,b6)
theorem eta3 {α β γ:Type} (t:α × β × γ):t=(t.1,t.2.1,t.2.2):=rfl
theorem took_len {r x r':List UInt8} {b b':Bool} (h:tookOf r b=(x,r',b')):x.length≤r.length∧r'.length≤r.length:=tookOf_le h.symm
theorem zis (r:List UInt8) (b:Bool):∃ zid fr to owner epoch pend tt key nw r1 b1 r2 b2 r3 b3 r4 b4 r5 b5 r6 b6,ZIs r b zid fr to owner epoch pend tt key nw r1 b1 r2 b2 r3 b3 r4 b4 r5 b5 r6 b6:=by
 obtain ⟨zid,r1,b1,e1⟩:∃ n x y,numT r b=(n,x,y):=⟨_,_,_,eta3 _⟩
 obtain ⟨fr,r2,b2,e2⟩:∃ n x y,tookOf r1 b1=(n,x,y):=⟨_,_,_,eta3 _⟩
 obtain ⟨to,r3,b3,e3⟩:∃ n x y,tookOf r2 b2=(n,x,y):=⟨_,_,_,eta3 _⟩
 obtain ⟨r4,b4,e4⟩:∃ x y,rdSt r3 b3 4=(x,y):=⟨_,_,rfl⟩
 obtain ⟨key,r5,b5,e5⟩:∃ n x y,tookOf r4 b4=(n,x,y):=⟨_,_,_,eta3 _⟩
 obtain ⟨nw,r6,b6,e6⟩:∃ n x y,numT r5 b5=(n,x,y):=⟨_,_,_,eta3 _⟩
 have h1:rdVal r b 0=zid:=by unfold rdVal;rw [rz];dsimp only;rw [e1]
 have h1s:rdSt r b 1=(r1,b1):=by
  have:=rd_step r b 0 1 rfl
  rw [rz] at this
  dsimp only at this
  rw [e1] at this
  simp only [Prod.mk.injEq] at this
  rw [←Prod.eta (rdSt r b 1),←this.2.1,←this.2.2]
 have h6:rdVal r5 b5 0=nw:=by unfold rdVal;rw [rz];dsimp only;rw [e6]
 have h6s:rdSt r5 b5 1=(r6,b6):=by
  have:=rd_step r5 b5 0 1 rfl
  rw [rz] at this
  dsimp only at this
  rw [e6] at this
  simp only [Prod.mk.injEq] at this
  rw [←Prod.eta (rdSt r5 b5 1),←this.2.1,←this.2.2]
 have a2:t2 (r,b)=(fr,r2,b2):=by unfold t2 s1;dsimp only;rw [h1s];exact e2
 have a3:t3 (r,b)=(to,r3,b3):=by unfold t3;rw [a2];exact e3
 have a4:s4 (r,b)=(r4,b4):=by unfold s4;rw [a3];exact e4
 have a5:t5 (r,b)=(key,r5,b5):=by unfold t5;rw [a4];exact e5
 have a6:s6 (r,b)=(r6,b6):=by unfold s6;rw [a5];exact h6s
 have l1:r1.length≤r.length:=by have:=(numT_le r b).1;rw [e1] at this;exact this
 obtain ⟨k2,l2⟩:=took_len e2
 obtain ⟨k3,l3⟩:=took_len e3
 have l4:r4.length≤r3.length:=by have:=rdSt_le r3 b3 4;rw [e4] at this;exact this
 obtain ⟨k5,l5⟩:=took_len e5
 have l6:r6.length≤r5.length:=by have:=(numT_le r5 b5).1;rw [e6] at this;exact this
 have nb:nw≤4611686018427387904:=by rw [←h6];exact rdVal_le _ _ _
 have hrd:rdZ (r,b)=⟨zid,txt fr,txt to,rdVal r3 b3 0,rdVal r3 b3 1,rdVal r3 b3 2,rdVal r3 b3 3,txt key,nw⟩:=by
  unfold rdZ
  rw [a2,a3,a5]
  dsimp only
  rw [h1,h6]
 exact ⟨zid,fr,to,rdVal r3 b3 0,rdVal r3 b3 1,rdVal r3 b3 2,rdVal r3 b3 3,key,nw,r1,b1,r2,b2,r3,b3,r4,b4,r5,b5,r6,b6,⟨e1,e2,e3,rfl,rfl,rfl,rfl,e4,e5,e6,l1,by omega,by omega,by omega,by omega,by omega,by omega,by omega,by omega,nb,hrd,a6⟩⟩
theorem txt_size (l:List UInt8):(txt l).size=l.length:=by simp [txt,ByteArray.size]
theorem encS_pos (s:ByteArray):1≤(encS s).length:=by
 have:=(encN_length s.data.toList.length).2
 simp only [encS,encRow,List.length_append]
 omega
theorem encZ_pos (z:Zn):9≤(encZ z).length:=by
 have h1:=(encN_length (clampN z.id)).2
 have h2:=(encN_length (clampN z.owner)).2
 have h3:=(encN_length (clampN z.epoch)).2
 have h4:=(encN_length (clampN z.pend)).2
 have h5:=(encN_length (clampN z.tt)).2
 have h6:=(encN_length (clampN z.nw)).2
 have h7:=encS_pos z.fr
 have h8:=encS_pos z.to
 have h9:=encS_pos z.key
 unfold encZ
 simp only [encs_cons,encs_nil,List.append_nil,List.length_append]
 omega
theorem s6_less {s:Rs} (h:(s6 s).2=false):(s6 s).1.length+9≤s.1.length:=by
 obtain ⟨-,h2⟩:=rdZ_back h
 have h1:=encZ_pos (rdZ s)
 have:=congrArg List.length h2
 rw [List.length_append] at this
 omega
theorem news_ad (w:World) (n:Nat) (hn:n=w.heap.size) (cur:Array Value) (t:TypeId):∀ ad,(some ⟨n,0,none⟩:Option Addr)=some ad→∀ (j:Nat) u,cur.toList[j]?=some u→(w.alloc (.cells cur t)).cell? (ad.add j)=some u:=by
 subst hn
 intro ad e j u hu
 obtain rfl:=Option.some.inj e
 rw [add_none,Nat.zero_add,(cells_of_obj (heap_new w _)).1]
 simpa using hu
def zz9:Array Value:=#[.int .i64 0,.string ⟨#[]⟩,.string ⟨#[]⟩,.int .i64 0,.int .i64 0,.int .i64 0,.int .i64 0,.string ⟨#[]⟩,.int .i64 0]
theorem zoneInfoO:(Tryz.prog.info? 125).map (fun i=>(i.zero,i.size,i.bytes))=some (some (.agg zz9),9,96):=by kernel_rfl
structure RdI (l:List UInt8) (j:Nat) (L:List Zn) (r:List UInt8) (b:Bool):Prop where
 all:rdZs (rdVal l false 2) (rdSt l false 3)=(L++(rdZs j (r,b)).1,(rdZs j (r,b)).2)
 good:b=false→9 * L.length+r.length≤l.length
 len:9 * L.length≤l.length+9
 left:r.length≤l.length
 sz:∀ z∈L,z.fr.size≤l.length∧z.to.size≤l.length∧z.key.size≤l.length∧0≤z.nw∧z.nw≤4611686018427387904
theorem rdZs_succ (k:Nat) (s:Rs):rdZs (k+1) s=if s.2=true then ([],s) else (rdZ s::(rdZs k (s6 s)).1,(rdZs k (s6 s)).2):=rfl
theorem RdI.start (l:List UInt8):RdI l (rdVal l false 2) [] (rdSt l false 3).1 (rdSt l false 3).2 :=
 ⟨rfl,fun _=>by simpa using rdSt_le l false 3,by simp,rdSt_le l false 3,fun _ h=>by simp at h⟩
theorem RdI.next {l:List UInt8} {j:Nat} {L:List Zn} {r:List UInt8} (h:RdI l (j+1) L r false) {zid:Nat} {fr to:List UInt8} {owner epoch pend tt:Nat} {key:List UInt8} {nw:Nat} {r1:List UInt8} {b1:Bool} {r2:List UInt8} {b2:Bool} {r3:List UInt8} {b3:Bool} {r4:List UInt8} {b4:Bool} {r5:List UInt8} {b5:Bool} {r6:List UInt8} {b6:Bool}
 (z:ZIs r false zid fr to owner epoch pend tt key nw r1 b1 r2 b2 r3 b3 r4 b4 r5 b5 r6 b6):RdI l j (L++[⟨zid,txt fr,txt to,owner,epoch,pend,tt,txt key,nw⟩]) r6 b6:=by
 have hg:=h.good rfl
 refine ⟨?_,fun hb=>?_,by simp;omega,Nat.le_trans z.l6 h.left,fun y hy=>?_⟩
 ·rw [h.all]
  have:rdZs (j+1) (r,false)=(rdZ (r,false)::(rdZs j (s6 (r,false))).1,(rdZs j (s6 (r,false))).2):=by
   rw [rdZs_succ,if_neg (by simp)]
  rw [this,z.rd,z.st]
  simp
 ·have h6:(s6 (r,false)).2=false:=by rw [z.st];exact hb
  have:=s6_less h6
  rw [z.st] at this
  simp only [List.length_append,List.length_cons,List.length_nil] at this ⊢
  omega
 ·rcases List.mem_append.1 hy with hy | hy
  ·exact h.sz y hy
  ·obtain rfl:=List.mem_singleton.1 hy
   simp only [txt_size]
   have:=z.k1;have:=z.k2;have:=z.k3;have:=z.nb;have:=h.left
   omega
theorem RdI.done {l:List UInt8} {j:Nat} {L:List Zn} {r:List UInt8} {b:Bool} (h:RdI l j L r b) (he:j=0∨b=true):decM l=(⟨rdVal l false 0,rdVal l false 1,L⟩,r,b):=by
 have e:rdZs j (r,b)=([],r,b):=by
  rcases he with rfl | rfl
  ·rfl
  ·cases j with
   | zero=>rfl
   | succ j=>rw [rdZs_succ,if_pos rfl]
 unfold decM
 rw [h.all,e]
 simp
end Go.Proofs.YtogamdaomdoapaaGreat.O