/- Texts put together: Str, EncP, OpenB, RdNums. -/
import Derived.Test.YtogamdaomdoapaaZa01
import Derived.Test.YtogamdaomdoapaaZa02
import Derived.Test.YtogamdaomdoapaaZa04
import Derived.Test.YtogamdaomdoapaaZa05
import Derived.Test.YtogamdaomdoapaaZa07
import Derived.ChangeSame
import Derived.ChangeSlices
import Derived.Deep.Fields
import Derived.Deep.Slices
import Derived.Laws.Bits64b
import Derived.Lib.ConvBytes
import Derived.Lib.SmallJoins
import Derived.OpenShut
import Derived.ProofKit
import Derived.ShutString
import Derived.SizedLaws
namespace Go.Proofs.Ytogamdaomdoapaa
open Go.RowKit
set_option maxRecDepth 20000
def encS (s:ByteArray):List UInt8:=encRow s.data.toList
theorem conv_bytes (w:World) (s:ByteArray):(convert 9 36 (.string s)).run Try.prog w=.ok (.slice (some ⟨w.heap.size,0,none⟩) s.size (grownCap w s.size 0 5)) (Lib.bytesWorld w 5 s) :=
 Lib.run_convert_string_bytes w 9 36 5 s Try.underlying9 Try.underlying36 Try.underlying5
theorem bytesWorld_below (w:World) (s:ByteArray):Below w.heap.size w (Lib.bytesWorld w 5 s) :=
 ⟨rfl,rfl,rfl,by rw [Lib.bytesWorld_size];omega,fun k hk=>Lib.bytesWorld_at_old w _ s k hk⟩
theorem bytesWorld_bat (w:World) (s:ByteArray):BAt (Lib.bytesWorld w 5 s) (some ⟨w.heap.size,0,none⟩) s.data.toList:=fun _=>by
 refine ⟨w.heap.size,0,rfl,by rw [Lib.bytesWorld_size];omega,fun i hi=>?_⟩
 have hs:i<s.size:=by simpa using hi
 rw [Nat.zero_add,Lib.bytesWorld_cell w _ s i hs]
 simp [List.getD,List.getElem?_eq_getElem hi]
@[go_sem] theorem bytesWorld_sz (w:World) (s:ByteArray):(Lib.bytesWorld w 5 s).heap.size=w.heap.size+1:=Lib.bytesWorld_size w _ s
@[go_sem] theorem bytesWorld_old (w:World) (s:ByteArray) (b o:Nat) (h:b<w.heap.size):(Lib.bytesWorld w 5 s).cell? ⟨b,o,none⟩=w.cell? ⟨b,o,none⟩:=(bytesWorld_below w s).cell (p:=⟨b,o,none⟩) h
theorem size_nil {s:ByteArray} (h:s.toList=[]):s.size=0:=by
 rw [ByteArray.toList_eq] at h
 have h2:=congrArg List.length h
 rw [Array.length_toList] at h2
 exact h2
theorem srow_ok {w w':World} (s:ByteArray) (hs:s.size≤1000000) (p:Nat) (o:Option Nat) (g:Nat) (hg:g=w.heap.size) (hp:p<w.heap.size) (ho:∀ x,o=some x→x<w.heap.size) (hb:Below (Lib.bytesWorld w 5 s).heap.size (Lib.bytesWorld w 5 s) w') :
 s.data.toList.length≤grownCap w s.size 0 5∧grownCap w s.size 0 5≤9223372036854775807∧(some (⟨g,0,none⟩:Addr)=none→s.data.toList.length=0∧grownCap w s.size 0 5=0)∧BAt w' (some ⟨g,0,none⟩) s.data.toList∧∀ a,some (⟨g,0,none⟩:Addr)=some a→¬Foot p o a.block:=by
 subst hg
 have h1:s.data.toList.length=s.size:=by rw [Array.length_toList];rfl
 have h2:=grownCap_le_maxLen w s.size 0 5 (by unfold maxLen;omega)
 unfold maxLen at h2
 refine ⟨by rw [h1];exact grownCap_ge w s.size 0 _,by omega,(fun h=>by cases h),(bytesWorld_bat w s).below hb,fun a ha=>?_⟩
 cases ha
 rintro (e | e)
 ·simp only at e;omega
 ·have:=ho _ e;simp only at this;omega
theorem encS_length (s:ByteArray):(encS s).length≤s.size+10:=by
 have:=(encN_length s.data.toList.length).1
 simp only [encS,encRow,List.length_append,Array.length_toList,ByteArray.size] at this ⊢
 omega
theorem St.text1 {W w:World} {L:List Th} {p:Nat} {l:List UInt8} {o:Option Nat} (h:St W w (thWr p W.heap.size l o::L)) (s:ByteArray) (hs:s.size≤1000000) (n:Nat) (hn:n=w.heap.size+1) (m:Nat) (hmn:m=w.heap.size) (hm:l.length+s.size+40≤140737488351232) :
 Calls Try.prog 36 #[.pointer (some ⟨p,0,none⟩),.slice (some ⟨n,0,none⟩) 1 1] ((Lib.bytesWorld w 5 s).alloc (.cells #[.slice (some ⟨m,0,none⟩) s.size (grownCap w s.size 0 5)] 36)) fun e w'=>e=.returned (.tuple #[])∧∃ o',St W w' (thWr p W.heap.size (l++encS s) o'::L):=by
 subst hmn
 have hwr:WrAt w p W.heap.size l o:=h.head
 have hp2:=hwr.lt
 have ho2:∀ x,o=some x→x<w.heap.size:=fun x hx=>(hwr.own_lt x hx).1
 have z1:=bytesWorld_sz w s
 have S4:=h.grow (bytesWorld_below w s)
 refine (S4.rows [⟨some ⟨w.heap.size,0,none⟩,grownCap w s.size 0 5,s.data.toList⟩] n 1 (by omega) rfl _ rfl (fun r hr=>?_) ?_).mono ?_
 ·obtain rfl:=List.mem_singleton.1 hr
  exact srow_ok s hs _ _ _ rfl hp2 ho2 (Below.refl _ _)
 ·simp only [flatR,List.flatMap_cons,List.flatMap_nil,List.length_cons,List.length_nil,List.append_nil,Array.length_toList]
  simp only [ByteArray.size] at hm
  omega
 ·rintro e w' ⟨rfl,o',hS⟩
  refine ⟨rfl,o',?_⟩
  simp only [encRows,List.flatMap_cons,List.flatMap_nil,List.append_nil] at hS
  exact hS
theorem St.text2 {W w:World} {L:List Th} {p:Nat} {l:List UInt8} {o:Option Nat} (h:St W w (thWr p W.heap.size l o::L)) (s t:ByteArray) (hs:s.size≤1000000) (ht:t.size≤1000000) (n:Nat) (hn:n=w.heap.size+1+1) (m m2:Nat) (hmn:m=w.heap.size) (hmn2:m2=w.heap.size+1) (hm:l.length+s.size+t.size+40≤140737488351232) :
 Calls Try.prog 36 #[.pointer (some ⟨p,0,none⟩),.slice (some ⟨n,0,none⟩) 2 2] ((Lib.bytesWorld (Lib.bytesWorld w 5 s) 5 t).alloc (.cells #[.slice (some ⟨m,0,none⟩) s.size (grownCap w s.size 0 5),.slice (some ⟨m2,0,none⟩) t.size (grownCap (Lib.bytesWorld w 5 s) t.size 0 5)] 36)) fun e w'=>e=.returned (.tuple #[])∧∃ o',St W w' (thWr p W.heap.size (l++(encS s++encS t)) o'::L):=by
 subst hmn hmn2
 have hwr:WrAt w p W.heap.size l o:=h.head
 have hp2:=hwr.lt
 have ho2:∀ x,o=some x→x<w.heap.size:=fun x hx=>(hwr.own_lt x hx).1
 have z1:=bytesWorld_sz w s
 have z2:=bytesWorld_sz (Lib.bytesWorld w 5 s) t
 have b2:=bytesWorld_below (Lib.bytesWorld w 5 s) t
 have S4:=h.grow ((bytesWorld_below w s).trans (b2.mono (by omega)))
 refine (S4.rows [⟨some ⟨w.heap.size,0,none⟩,grownCap w s.size 0 5,s.data.toList⟩,⟨some ⟨w.heap.size+1,0,none⟩,grownCap (Lib.bytesWorld w 5 s) t.size 0 5,t.data.toList⟩] n 2 (by omega) rfl _ rfl (fun r hr=>?_) ?_).mono ?_
 ·simp only [List.mem_cons,List.not_mem_nil,or_false] at hr
  rcases hr with rfl | rfl
  ·exact srow_ok s hs _ _ _ rfl hp2 ho2 b2
  ·exact srow_ok t ht _ _ _ (by omega) (by omega) (fun x hx=>by have:=ho2 x hx;omega) (Below.refl _ _)
 ·simp only [flatR,List.flatMap_cons,List.flatMap_nil,List.length_append,List.length_cons,List.length_nil,List.append_nil,Array.length_toList]
  simp only [ByteArray.size] at hm
  omega
 ·rintro e w' ⟨rfl,o',hS⟩
  refine ⟨rfl,o',?_⟩
  simp only [encRows,List.flatMap_cons,List.flatMap_nil,List.append_nil] at hS
  exact hS
end Go.Proofs.Ytogamdaomdoapaa
namespace Go.Proofs.Ytogamdaomdoapaa
open Go.RowKit
def b1 (b:Bool):Int:=if b then 1 else 0
def encO (o:Rq):List UInt8:=encs [o.kind,o.client,o.seq]++(encS o.key++encS o.who++encS o.tkey++encS o.twho)++encs [o.item,o.count,o.price,b1 o.buy,o.id]
theorem may_kind {o:Rq} (h:mayO o=true):placeB o.key o.who=true∧kindO o=true∧1≤o.client∧o.client≤1048576∧1≤o.seq∧o.seq≤1099511627776:=by
 simp only [mayO,Bool.and_eq_true,decide_eq_true_eq] at h
 obtain ⟨⟨h1,h2⟩,h3⟩:=h
 exact ⟨h2,h3,h1⟩
theorem kind_parts {o:Rq} (h:kindO o=true):((o.kind=1∨o.kind=6)∧cntO o=true)∨(o.kind=2∧sendO o=true)∨(o.kind=3∧ordO o=true)∨(o.kind=4∧canO o=true)∨((o.kind=5∨o.kind=7)∧barO o=true):=by
 unfold kindO at h
 split at h
 ·exact .inl ⟨by assumption,h⟩
 ·split at h
  ·exact .inr (.inl ⟨by assumption,h⟩)
  ·split at h
   ·exact .inr (.inr (.inl ⟨by assumption,h⟩))
   ·split at h
    ·exact .inr (.inr (.inr (.inl ⟨by assumption,h⟩)))
    ·split at h
     ·exact .inr (.inr (.inr (.inr ⟨by assumption,h⟩)))
     ·cases h
theorem may_sizes {o:Rq} (h:mayO o=true):o.key.size≤16∧o.who.size≤16∧o.tkey.size≤16∧o.twho.size≤16:=by
 obtain ⟨hp,hk,-⟩:=may_kind h
 simp only [placeB,decide_eq_true_eq] at hp
 refine ⟨hp.2.1,hp.2.2.2,?_⟩
 rcases kind_parts hk with ⟨-,h⟩ | ⟨-,h⟩ | ⟨-,h⟩ | ⟨-,h⟩ | ⟨-,h⟩
 ·simp only [cntO,decide_eq_true_eq] at h
  rw [size_nil h.2.2.2.2.1,size_nil h.2.2.2.2.2.1];omega
 ·simp only [sendO,placeB,Bool.and_eq_true,decide_eq_true_eq] at h
  omega
 ·simp only [ordO,cntO,Bool.and_eq_true,decide_eq_true_eq] at h
  rw [size_nil h.2.2.2.2.2.1,size_nil h.2.2.2.2.2.2.1];omega
 ·simp only [canO,decide_eq_true_eq] at h
  rw [size_nil h.2.2.1,size_nil h.2.2.2.1];omega
 ·simp only [barO,decide_eq_true_eq] at h
  rw [size_nil h.1,size_nil h.2.1];omega
end Go.Proofs.Ytogamdaomdoapaa
namespace Go.Proofs.Ytogamdaomdoapaa
open Go.ChangeShapes Go.WideShapes Go.Deep Go.RowKit
theorem lt_of_cellB {w:World} {a:Addr} {v:Value} (h:w.cell? a=some v):a.block<w.heap.size:=by
 rcases Nat.lt_or_ge a.block w.heap.size with h1 | h1
 ·exact h1
 ·simp [World.cell?,Array.getElem?_eq_none h1] at h
theorem wf_u8 {n:Int} (h:(Lit.int IntKind.u8 n).wf=true):0≤n∧n<256:=by
 have:=range_u8 (zs:=[n]) (by simpa using h) 0
 simp at this
 omega
section
variable {H:Type} {enc:TypeId × Value→H} {W:World}
set_option maxRecDepth 20000 in
theorem trod_bytes {fuel base:Nat} {cs:List Value} {x:DataW H × List MemPlace} (h:DataW.trod enc Try.prog W base (fun _=>true) true fuel 36 cs=some x) :
 ∃ ao l cap,cs=[.slice ao (l:List UInt8).length cap]∧l.length≤cap∧cap≤maxLen∧(ao=none→l.length=0∧cap=0)∧BAt W ao l:=by
 rcases open_ints Try.underlying36 Try.underlying5 (by kernel_rfl:Try.prog.cellsOf 5=1) h with ⟨hcs,hx⟩ | ⟨a,len,cap,zs,hcs,_,hl,hm,hz,hx,hcell,hwz⟩
 ·exact ⟨none,[],0,hcs,Nat.le_refl _,Nat.zero_le _,fun _=>⟨rfl,rfl⟩,BAt.nil⟩
 ·simp only [if_true] at hz
  have hlen:((zs.take len).map fun n=>UInt8.ofNat n.toNat).length=len:=by simp;omega
  refine ⟨some a,(zs.take len).map fun n=>UInt8.ofNat n.toNat,cap,by rw [hlen];exact hcs,by omega,hm,fun h=>(nomatch h),fun hp=>?_⟩
  rw [hlen] at hp
  obtain ⟨ab,ao,spot⟩:=a
  have hspot:spot=none:=by simpa [Addr.add] using World.cell?_spot (hcell 0 (by omega))
  subst hspot
  have h0:=hcell 0 (by omega)
  refine ⟨ab,ao,rfl,?_,fun i hi=>?_⟩
  ·rw [add_none] at h0
   exact lt_of_cellB h0
  ·rw [hlen] at hi
   have hci:=hcell i (by omega)
   rw [add_none] at hci
   rw [hci]
   have e:zs.getD i 0=zs[i]'(by omega):=by simp [List.getD,List.getElem?_eq_getElem (show i<zs.length by omega)]
   have hb:=wf_u8 (hwz _ (List.getElem_mem (show i<zs.length by omega)))
   simp only [e,List.getElem_map,List.getElem_take]
   congr 2
   simp only [UInt8.toNat_ofNat']
   omega
end
end Go.Proofs.Ytogamdaomdoapaa
namespace Go.Proofs.Ytogamdaomdoapaa
open Go.RowKit
set_option maxRecDepth 20000
def numT (rest:List UInt8) (bad:Bool):Nat × List UInt8 × Bool:=match numOf rest with | none=>(0,[],true) | some (n,r)=>(n,r,bad)
def rdSt (rest:List UInt8) (bad:Bool):Nat→List UInt8 × Bool
 | 0=>(rest,bad)
 | k+1=>(numT (rdSt rest bad k).1 (rdSt rest bad k).2).2
def rdVal (rest:List UInt8) (bad:Bool) (k:Nat):Nat:=(numT (rdSt rest bad k).1 (rdSt rest bad k).2).1
theorem numT_le (rest:List UInt8) (bad:Bool):(numT rest bad).2.1.length≤rest.length∧(numT rest bad).1≤4611686018427387904:=by
 unfold numT
 cases h:numOf rest with
 | none=>simp
 | some o =>
  obtain ⟨n,r⟩:=o
  obtain ⟨h1,k,-,hk,e⟩:=numR_left rest 0 0 n r h
  refine ⟨?_,h1⟩
  simp only [e,List.length_drop]
  omega
theorem rdSt_le (rest:List UInt8) (bad:Bool) (k:Nat):(rdSt rest bad k).1.length≤rest.length:=by
 induction k with
 | zero=>exact Nat.le_refl _
 | succ k ih=>exact Nat.le_trans (numT_le _ _).1 ih
theorem rdnum_t (p g:Nat) (rest:List UInt8) (bad:Bool) (w:World) (h:RdAt w p g rest bad) (hm:rest.length≤140737488351232) :
 Calls Try.prog 46 #[.pointer (some ⟨p,0,none⟩)] w fun e w'=>e=.returned (.int .i64 ((numT rest bad).1:Nat))∧RdAt w' p g (numT rest bad).2.1 (numT rest bad).2.2∧Keeps w w' (fun x=>x=p):=by
 refine (rdnum_any p g rest bad w h hm).mono ?_
 rintro e w' ⟨h1,h2,h3⟩
 unfold numT
 cases ho:numOf rest with
 | none=>exact ⟨(h2 ho).1,(h2 ho).2,h3⟩
 | some o =>
  obtain ⟨n,r⟩:=o
  exact ⟨(h1 n r ho).1,(h1 n r ho).2,h3⟩
def setPs (w:World) (ps:List (Option Addr)) (val:Nat→Nat):Nat→World
 | 0=>w
 | k+1=>match ps[k]? with
  | some (some a)=>(setPs w ps val k).setCell a (.int .i64 (val k:Nat))
  | _=>setPs w ps val k
theorem setPs_size (w:World) (ps:List (Option Addr)) (val:Nat→Nat) (k:Nat):(setPs w ps val k).heap.size=w.heap.size:=by
 induction k with
 | zero=>rfl
 | succ k ih =>
  simp only [setPs]
  split
  ·simpa [World.setCell] using ih
  ·exact ih
theorem setPs_cell {w:World} {ps:List (Option Addr)} {val:Nat→Nat} {a:Addr} {v:Value} (h:w.cell? a=some v) (k:Nat):∃ v',(setPs w ps val k).cell? a=some v':=by
 induction k with
 | zero=>exact ⟨v,h⟩
 | succ k ih =>
  obtain ⟨v',hv⟩:=ih
  simp only [setPs]
  split
  ·exact cell?_setCell_some hv
  ·exact ⟨v',hv⟩
theorem setPs_frozen (w:World) (ps:List (Option Addr)) (val:Nat→Nat) (a:Addr) (k:Nat):(setPs w ps val k).frozen? a=w.frozen? a:=by
 induction k with
 | zero=>rfl
 | succ k ih =>
  simp only [setPs]
  split
  ·rw [World.frozen?_setCell];exact ih
  ·exact ih
theorem setPs_keeps (w:World) (ps:List (Option Addr)) (val:Nat→Nat) (k:Nat):Keeps w (setPs w ps val k) (fun x=>∃ a,some a∈ps∧a.block=x):=by
 induction k with
 | zero=>exact Keeps.refl _ _
 | succ k ih =>
  simp only [setPs]
  split
  ·rename_i a ha
   exact ih.trans (Keeps.set _ _ _) (fun _ h=>h) (fun x _ hx=>⟨a,List.mem_of_getElem? ha,hx.symm⟩)
  ·exact ih
theorem Keeps.both {a b:World} {S:Nat→Prop} (h:Keeps a b S) (p:Addr) (v:Value):Keeps (a.setCell p v) (b.setCell p v) S :=
 ⟨h.os,h.tape,h.output,by simpa [World.setCell] using h.size,fun k hk hn=>by
  simp only [World.setCell,Array.size_modify] at hk
  have:=h.block k hk hn
  simp only [World.setCell,Array.getElem?_modify,this]⟩
set_option maxHeartbeats 2000000 in
theorem rdnums_ptrs (p g s sc:Nat) (rest:List UInt8) (bad:Bool) (ps:List (Option Addr)) (w:World) (h:RdAt w p g rest bad) (hm:rest.length≤140737488351232) (hl:ps.length≤1000)
 (hrow:∀ i,(hi:i<ps.length)→w.cell? ⟨s,i,none⟩=some (.pointer ps[i])) (hs:s<w.heap.size) (hsp:s≠p)
 (hps:∀ a,some a∈ps→a.block≠p∧a.block≠s∧(0<rest.length→a.block≠g)∧(∃ v,w.cell? a=some v)∧w.frozen? a=false) :
 Calls Try.prog 28 #[.pointer (some ⟨p,0,none⟩),.slice (some ⟨s,0,none⟩) ps.length sc] w fun e w'=>e=.returned (.tuple #[])∧RdAt w' p g (rdSt rest bad ps.length).1 (rdSt rest bad ps.length).2∧Keeps (setPs w ps (rdVal rest bad) ps.length) w' (fun x=>x=p):=by
 have Hrow:=Lib.hid hrow
 have Hps:=Lib.hid hps
 have H:=Lib.hid h
 clear hrow hps h
 go_enter Try.func28,Try.ntmps28
 go_wp2_with fail
 go_loopw [9] (fun s9 wr=>∃ k:Nat,s9=.int .i64 k∧k≤ps.length∧Hid (RdAt wr p g (rdSt rest bad k).1 (rdSt rest bad k).2)∧Hid (Keeps (setPs w ps (rdVal rest bad) k) wr (fun x=>x=p))) (fun s9 _=>ps.length - (intOf s9).toNat)
 case atStart=>exact ⟨0,rfl,by omega,H,Keeps.refl _ _⟩
 case round =>
  obtain ⟨k,rfl,hk,HR,HK⟩:=hrel
  clear H
  by_cases hlt:k<ps.length
  ·obtain ⟨q,hq⟩:∃ q,q=ps[k]:=⟨_,rfl⟩
   have hmem:q∈ps:=by rw [hq];exact List.getElem_mem _
   have hat:ps[k]?=some q:=by rw [hq];exact List.getElem?_eq_getElem hlt
   have hrk:w.cell? ⟨s,k,none⟩=some (.pointer q):=by rw [hq];exact Hrow.out k hlt
   have hsS:¬∃ a,some a∈ps∧a.block=s:=fun ⟨a,ha,e⟩=>(Hps.out a ha).2.1 e
   have hc:=((HK.out.cell (p:=⟨s,k,none⟩) (by rw [setPs_size];exact hs) hsp).trans ((setPs_keeps w ps (rdVal rest bad) k).cell (p:=⟨s,k,none⟩) hs hsS)).trans hrk
   have hrl:=rdSt_le rest bad k
   have Hq:=Lib.hid (⟨hmem,hat⟩:_∧_)
   have HsS:=Lib.hid hsS
   obtain ⟨v,hv⟩:∃ v,v=rdVal rest bad k:=⟨_,rfl⟩
   have hcall:=rdnum_t p g _ _ wr HR.out (by omega)
   rw [show (numT (rdSt rest bad k).1 (rdSt rest bad k).2).1=v from hv.symm,show (numT (rdSt rest bad k).1 (rdSt rest bad k).2).2.1=(rdSt rest bad (k+1)).1 from rfl,show (numT (rdSt rest bad k).1 (rdSt rest bad k).2).2.2=(rdSt rest bad (k+1)).2 from rfl] at hcall
   have Hcall:=Lib.hid hcall
   have Hv:=Lib.hid hv
   clear hq hmem hat hrk hsS hcall hv
   go_wp2_with fail
   refine Hcall.out.mono ?_
   rintro e w1 ⟨rfl,hr1,hk1⟩
   have HR1:=Lib.hid hr1
   have HK1:=Lib.hid (HK.out.trans hk1 (fun _ h=>h) (fun _ _ h=>h))
   clear hr1 hk1 HR HK hc
   cases q with
   | none =>
    go_wp2_with fail
    go_roundw
    case rel=>exact ⟨k+1,by go_num,by omega,HR1,by have:=HK1.out;simp only [Hid,setPs,Hq.out.2];exact this⟩
    case measure=>simp [intOf];omega
   | some a =>
    obtain ⟨n1,n2,n3,⟨v0,n4⟩,n5⟩:=Hps.out a Hq.out.1
    obtain ⟨v1,hc1⟩:=setPs_cell (ps:=ps) (val:=rdVal rest bad) n4 k
    have hlt1:a.block<w.heap.size:=lt_of_cellB n4
    have hc2:=(HK1.out.cell (p:=a) (by rw [setPs_size];exact hlt1) n1).trans hc1
    have hf2:=((HK1.out.frozen (p:=a) (by rw [setPs_size];exact hlt1) n1).trans (setPs_frozen w ps (rdVal rest bad) a k)).trans n5
    have hrl1:=rdSt_le rest bad (k+1)
    have N1:=Lib.hid (⟨n1,fun h=>n3 (Nat.lt_of_lt_of_le h hrl1)⟩:a.block≠p∧(0<(rdSt rest bad (k+1)).1.length→a.block≠g))
    clear n1 n2 n3 n4 n5 hc1 hrl1 hrl
    go_wp2_with fail
    go_roundw
    case rel=>exact ⟨k+1,by go_num,by omega,HR1.out.stay (Keeps.set _ _ _) (fun h=>N1.out.1 h.symm) (fun hl h=>N1.out.2 hl h.symm),by
     have:=HK1.out.both a (.int .i64 (v:Nat))
     simp only [Hid,setPs,Hq.out.2,←Hv.out]
     exact this⟩
    case measure=>simp [intOf];omega
  ·obtain rfl:k=ps.length:=by omega
   go_wp2_with fail
   go_end0
   exact ⟨rfl,HR.out,HK.out⟩
end Go.Proofs.Ytogamdaomdoapaa