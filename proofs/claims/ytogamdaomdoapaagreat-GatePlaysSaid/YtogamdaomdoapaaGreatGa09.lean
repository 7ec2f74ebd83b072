/- Texts put together: RdSt, ODp, OMp, OCn. -/
import Derived.Test.YtogamdaomdoapaaGreatGa04
import Derived.Test.YtogamdaomdoapaaGreatGa05
import Derived.Test.YtogamdaomdoapaaGreatGa06
import Derived.Test.YtogamdaomdoapaaGreatGa08
import Derived.Maps.Own
import Derived.Maps.OwnOps
import Derived.Maps.Views
namespace Go.Proofs.YtogamdaomdoapaaGreat
open Go.Value renaming int→aI
open Go.IntKind renaming i64→aK
open List renaming length_append→lL
open Bool renaming and_eq_true→bA
open Go.RowKit
set_option maxRecDepth 20000
theorem s0c {w:World} {b o:Nat} {cur:Array Value} {t:TypeId} {fr:Nat × Nat} {v:Value} (h:w.heap[b]?=some (.cells cur t fr)):(w.setCell ⟨b,o,none⟩ v).heap[b]?=some (.cells (cur.setIfInBounds o v) t fr):=by
 simp [World.setCell,Array.getElem?_modify,h]
theorem St.setObj {W w:World} {L:List Th} {b:Nat} {cur:Array Value} {t:TypeId} (h:St W w (a0c b (.cells cur t (0,0))::L)) (o:Nat) (v:Value):St W (w.setCell ⟨b,o,none⟩ v) (a0c b (.cells (cur.setIfInBounds o v) t (0,0))::L) :=
 h.step (Keeps.set w ⟨b,o,none⟩ v) _ (s0c h.head) (fun _ hx=>.inl hx)
abbrev Ob:=Nat × Array Value × TypeId
def thOb (x:Ob):Th:=a0c x.1 (.cells x.2.1 x.2.2 (0,0))
def n0d:List Ob→Nat→Nat→Value→List Ob
 | [],_,_,_=>[]
 | x::r,0,o,v=>(x.1,x.2.1.setIfInBounds o v,x.2.2)::r
 | x::r,i+1,o,v=>x::n0d r i o v
def f0p (O:List Ob) (ps:List (Nat × Nat)) (val:Nat→Nat):Nat→List Ob
 | 0=>O
 | k+1=>match ps[k]? with
  | some q=>n0d (f0p O ps val k) q.1 q.2 (aI aK (val k:Nat))
  | none=>f0p O ps val k
def blk (O:List Ob) (i:Nat):Nat:=(O.map (·.1)).getD i 0
def adOf (O:List Ob) (q:Nat × Nat):Option Addr:=some ⟨blk O q.1,q.2,none⟩
theorem o0s:∀ (O:List Ob) (i o:Nat) (v:Value),(n0d O i o v).map (·.1)=O.map (·.1)
 | [],_,_,_=>rfl
 | _::_,0,_,_=>rfl
 | x::r,i+1,o,v=>by simp only [n0d,List.map_cons,o0s r i o v]
theorem m0c (O:List Ob) (ps:List (Nat × Nat)) (val:Nat→Nat) (k:Nat):(f0p O ps val k).map (·.1)=O.map (·.1):=by
 induction k with
 | zero=>rfl
 | succ k ih =>
  simp only [f0p]
  split
  ·rw [o0s,ih]
  ·exact ih
theorem y0r {O:List Ob} {i:Nat} (h:i<O.length):∃ x∈O,x.1=blk O i:=by
 refine ⟨O[i],List.getElem_mem h,?_⟩
 simp [blk,List.getD,h]
theorem m0d:∀ {O:List Ob} {w:World} (_:(O.map (·.1)).Nodup) (_:∀ x∈O,w.heap[x.1]?=some (.cells x.2.1 x.2.2 (0,0))) (i o:Nat) (v:Value) (_:i<O.length),∀ x∈n0d O i o v,(w.setCell ⟨blk O i,o,none⟩ v).heap[x.1]?=some (.cells x.2.1 x.2.2 (0,0))
 | [],_,_,_,_,_,_,hi=>by simp at hi
 | x::r,w,hd,h,0,o,v,_=>by
  intro y hy
  simp only [n0d,List.mem_cons] at hy
  rcases hy with rfl | hy
  ·exact s0c (h x (by simp))
  ·have hne:y.1≠x.1:=fun e=>(List.nodup_cons.1 hd).1 (by show x.1∈_;rw [←e];exact List.mem_map_of_mem hy)
   exact (Below.heap_setCell _ _ _ _ hne).trans (h y (by simp [hy]))
 | x::r,w,hd,h,i+1,o,v,hi=>by
  intro y hy
  have hi2:i<r.length:=by simpa using hi
  have hb:blk (x::r) (i+1)=blk r i:=by simp [blk]
  rw [hb]
  simp only [n0d,List.mem_cons] at hy
  rcases hy with rfl | hy
  ·have hne:y.1≠blk r i:=fun e=>by
    obtain ⟨z,hz,e2⟩:=y0r hi2
    exact (List.nodup_cons.1 hd).1 (by show y.1∈_;rw [e,←e2];exact List.mem_map_of_mem hz)
   exact (Below.heap_setCell _ _ _ _ hne).trans (h y (by simp))
  ·exact m0d (List.nodup_cons.1 hd).2 (fun z hz=>h z (by simp [hz])) i o v hi2 y hy
theorem blk_fst {O O':List Ob} (h:O.map (·.1)=O'.map (·.1)) (i:Nat):blk O i=blk O' i:=by unfold blk;rw [h]
theorem q0k {O:List Ob} {w:World} (hd:(O.map (·.1)).Nodup) (h:∀ x∈O,w.heap[x.1]?=some (.cells x.2.1 x.2.2 (0,0))) (ps:List (Nat × Nat)) (hps:∀ q∈ps,q.1<O.length) (val:Nat→Nat) (k:Nat):∀ x∈f0p O ps val k,(h0h w (ps.map (adOf O)) val k).heap[x.1]?=some (.cells x.2.1 x.2.2 (0,0)):=by
 induction k with
 | zero=>exact h
 | succ k ih =>
  simp only [f0p,h0h,List.getElem?_map]
  cases hq:ps[k]? with
  | none=>exact ih
  | some q =>
   simp only [Option.map_some,adOf]
   have hf:=m0c O ps val k
   rw [←blk_fst hf q.1]
   have hl:=congrArg List.length hf
   simp only [List.length_map] at hl
   exact m0d (by rw [hf];exact hd) ih q.1 q.2 _ (by rw [hl];exact hps q (List.mem_of_getElem? hq))
theorem Ths.obs {B:Nat} {w:World}:∀ {O:List Ob} {L:List Th},Ths B w (O.map thOb++L)→(O.map (·.1)).Nodup∧(∀ x∈O,w.heap[x.1]?=some (.cells x.2.1 x.2.2 (0,0)))∧(∀ x∈O,B≤x.1)∧(∀ x∈O,∀ u∈L,¬u.F x.1)∧Ths B w L
 | [],L,h=>⟨by simp,by simp,by simp,by simp,h⟩
 | x::r,L,h=>by
  obtain ⟨h1,h2,h3,h4⟩:=h
  obtain ⟨g1,g2,g3,g4,g5⟩:=Ths.obs (O:=r) h4
  refine ⟨?_,?_,?_,?_,g5⟩
  ·rw [List.map_cons,List.nodup_cons]
   refine ⟨fun hm=>?_,g1⟩
   obtain ⟨y,hy,e⟩:=List.mem_map.1 hm
   exact h3 (thOb y) (List.mem_append.2 (.inl (List.mem_map.2 ⟨y,hy,rfl⟩))) x.1 rfl e.symm
  ·intro y hy
   rcases List.mem_cons.1 hy with rfl | hy
   ·exact h1
   ·exact g2 y hy
  ·intro y hy
   rcases List.mem_cons.1 hy with rfl | hy
   ·exact h2 _ rfl
   ·exact g3 y hy
  ·intro y hy u hu
   rcases List.mem_cons.1 hy with rfl | hy
   ·exact h3 u (by simp [hu]) y.1 rfl
   ·exact g4 y hy u hu
theorem Ths.mkObs {B:Nat} {w:World}:∀ {O:List Ob} {L:List Th},(O.map (·.1)).Nodup→(∀ x∈O,w.heap[x.1]?=some (.cells x.2.1 x.2.2 (0,0)))→(∀ x∈O,B≤x.1)→(∀ x∈O,∀ u∈L,¬u.F x.1)→Ths B w L→Ths B w (O.map thOb++L)
 | [],_,_,_,_,_,h=>h
 | x::r,L,h1,h2,h3,h4,h5=>by
  rw [List.map_cons,List.nodup_cons] at h1
  refine ⟨h2 x (by simp),fun y e=>?_,fun u hu y e huy=>?_,Ths.mkObs h1.2 (fun y hy=>h2 y (by simp [hy])) (fun y hy=>h3 y (by simp [hy])) (fun y hy=>h4 y (by simp [hy])) h5⟩
  ·have e':y=x.1:=e
   rw [e'];exact h3 x (by simp)
  ·have e':y=x.1:=e
   subst e'
   rcases List.mem_append.1 hu with hu | hu
   ·obtain ⟨z,hz,rfl⟩:=List.mem_map.1 hu
    have:x.1=z.1:=huy
    exact h1.1 (by rw [this];exact List.mem_map_of_mem hz)
   ·exact h4 x (by simp) u hu huy
theorem Keeps.join {a b:World} {S T:Nat→Prop} (h:Keeps a b S) (hS:∀ x,S x→T x):Keeps a b T:=⟨h.os,h.tape,h.output,h.size,fun k hk hn=>h.block k hk fun s=>hn (hS k s)⟩
set_option maxHeartbeats 1000000 in
theorem St.f0b {W w:World} {L:List Th} {p g:Nat} {rest:List UInt8} {bad:Bool} {O:List Ob} (h:St W w (thRd p g rest bad::(O.map thOb++L))) (hm:rest.length≤140737488351232) (ps:List (Nat × Nat)) (hps:∀ q∈ps,∃ x v,O[q.1]?=some x∧x.2.1[q.2]?=some v) (s k:Nat) (hs:s=w.heap.size) (hk:k=ps.length) (hl:ps.length≤1000) (cur:Array Value) (T:TypeId) (hc:cur=(ps.map fun q=>Value.pointer (adOf O q)).toArray) :
 Calls Tryz.prog 49 #[.pointer (some ⟨p,0,none⟩),.slice (some ⟨s,0,none⟩) k k] (w.alloc (.cells cur T)) fun e w'=>e=.returned (.tuple #[])∧St W w' (thRd p g (rdSt rest bad k).1 (rdSt rest bad k).2::((f0p O ps (a0j rest bad) k).map thOb++L)):=by
 subst hs hk
 have hlt:∀ q∈ps,q.1<O.length:=fun q hq=>by
  obtain ⟨x,v,hx,-⟩:=hps q hq
  exact (List.getElem?_eq_some_iff.1 hx).1
 have hr:RdAt w p g rest bad:=h.head
 have hp:=hr.lt
 have hW:=h.b.size
 have hg:St W (w.alloc (.cells cur T)) (thRd p g rest bad::(O.map thOb++L)):=h.grow (a0p _ _)
 obtain ⟨o1,o2,o3,o4,o5⟩:=Ths.obs hg.t.2.2.2
 obtain ⟨-,p2,-,-,-⟩:=Ths.obs h.t.2.2.2
 have hdis:=hg.t.2.2.1
 have hOp:∀ x∈O,x.1≠p∧(0<rest.length→x.1≠g):=fun x hx=>by
  have hu:thOb x∈O.map thOb++L:=List.mem_append.2 (.inl (List.mem_map.2 ⟨x,hx,rfl⟩))
  exact ⟨fun e=>hdis _ hu p (.inl rfl) e.symm,fun hl e=>hdis _ hu g (.inr ⟨rfl,hl⟩) e.symm⟩
 have hlen:(ps.map (adOf O)).length=ps.length:=by simp
 have hcall:=q0f p g w.heap.size ps.length rest bad (ps.map (adOf O)) (w.alloc (.cells cur T)) hg.head hm (by rw [hlen];exact hl)
  (fun i hi=>by
   rw [hlen] at hi
   rw [(b0b (b0r w (.cells cur T))).1,hc]
   simp [hi])
  (by simp) (by omega)
  (fun a ha=>by
   obtain ⟨q,hq,e⟩:=List.mem_map.1 ha
   simp only [adOf,Option.some.injEq] at e
   obtain ⟨x,v,hx,hv⟩:=hps q hq
   have hxm:=List.mem_of_getElem? hx
   have hbx:blk O q.1=x.1:=by simp [blk,List.getD,hx]
   have hab:a=⟨x.1,q.2,none⟩:=by rw [←e,hbx]
   subst hab
   have hcx:=b0b (o2 x hxm)
   refine ⟨(hOp x hxm).1,?_,(hOp x hxm).2,⟨v,by rw [hcx.1];exact hv⟩,hcx.2 _⟩
   have:=lt_of_block (p2 x hxm)
   simp only;omega)
 rw [hlen] at hcall
 refine hcall.mono ?_
 rintro e w' ⟨rfl,hr2,hk2⟩
 refine ⟨rfl,?_⟩
 have hsp:=k0o (w.alloc (.cells cur T)) (ps.map (adOf O)) (a0j rest bad) ps.length
 have hfst:=m0c O ps (a0j rest bad) ps.length
 have hmemO:∀ x∈f0p O ps (a0j rest bad) ps.length,∃ y∈O,y.1=x.1:=fun x hx=>by
  have:x.1∈(f0p O ps (a0j rest bad) ps.length).map (·.1):=List.mem_map_of_mem hx
  rw [hfst] at this
  obtain ⟨y,hy,e⟩:=List.mem_map.1 this
  exact ⟨y,hy,e⟩
 have hK:Keeps (w.alloc (.cells cur T)) w' (fun x=>x=p∨∃ y∈O,y.1=x):=by
  refine hsp.trans hk2 (fun x ⟨a,ha,e⟩=>?_) (fun x _ e=>.inl e)
  obtain ⟨q,hq,e2⟩:=List.mem_map.1 ha
  simp only [adOf,Option.some.injEq] at e2
  obtain ⟨y,hy,e3⟩:=y0r (hlt q hq)
  exact .inr ⟨y,hy,by rw [←e,←e2];exact e3⟩
 have hL5:Ths W.heap.size w' L:=o5.keep hK (fun t ht x hx hS=>by
  rcases hS with rfl | ⟨y,hy,rfl⟩
  ·exact hdis t (by simp [ht]) x (.inl rfl) hx
  ·exact o4 y hy t ht hx)
 refine ⟨hg.b.trans (hK.below (fun x hx=>?_) hg.b.size),hr2,fun x hx=>?_,fun u hu x hx hux=>?_,Ths.mkObs (by rw [hfst];exact o1) (fun x hx=>?_) (fun x hx=>?_) (fun x hx u hu=>?_) hL5⟩
 ·rcases hx with rfl | ⟨y,hy,rfl⟩
  ·exact hg.t.2.1 x (.inl rfl)
  ·exact o3 y hy
 ·rcases hx with rfl | ⟨rfl,hx⟩
  ·exact hg.t.2.1 x (.inl rfl)
  ·exact hg.t.2.1 x (.inr ⟨rfl,Nat.lt_of_lt_of_le hx (b0f rest bad _)⟩)
 ·have hx2:(thRd p g rest bad).F x:=by
   rcases hx with rfl | ⟨rfl,hx⟩
   ·exact .inl rfl
   ·exact .inr ⟨rfl,Nat.lt_of_lt_of_le hx (b0f rest bad _)⟩
  rcases List.mem_append.1 hu with hu | hu
  ·obtain ⟨z,hz,rfl⟩:=List.mem_map.1 hu
   obtain ⟨y,hy,e⟩:=hmemO z hz
   exact hdis (thOb y) (List.mem_append.2 (.inl (List.mem_map.2 ⟨y,hy,rfl⟩))) x hx2 (by
    have:x=z.1:=hux
    show x=y.1
    rw [e];exact this)
  ·exact hdis u (by simp [hu]) x hx2 hux
 ·have h1:=q0k o1 o2 ps hlt (a0j rest bad) ps.length x hx
  obtain ⟨y,hy,e⟩:=hmemO x hx
  rw [hk2.block x.1 (lt_of_block h1) (by rw [←e];exact (hOp y hy).1)]
  exact h1
 ·obtain ⟨y,hy,e⟩:=hmemO x hx
  rw [←e];exact o3 y hy
 ·obtain ⟨y,hy,e⟩:=hmemO x hx
  rw [←e];exact o4 y hy u hu
theorem St.q0e {W w:World} {L:List Th} {p g:Nat} {rest:List UInt8} {bad:Bool} (h:St W w (thRd p g rest bad::L)) (hm:rest.length≤140737488351232) :
 Calls Tryz.prog 81 #[.pointer (some ⟨p,0,none⟩)] w fun e w'=>e=.returned (aI aK ((numT rest bad).1:Nat))∧St W w' (thRd p g (numT rest bad).2.1 (numT rest bad).2.2::L):=by
 refine (w0l p g rest bad w h.head hm).mono ?_
 rintro e w' ⟨rfl,hr,hk⟩
 exact ⟨rfl,h.read hr hk (e0u _ _).1⟩
theorem St.c0u {W w:World} {L:List Th} {p g:Nat} {rest:List UInt8} {bad:Bool} (h:St W w (thRd p g rest bad::L)) (hm:rest.length≤140737488351232) :
 Calls Tryz.prog 50 #[.pointer (some ⟨p,0,none⟩)] w fun e w'=>∃ ao cap,e=.returned (.slice ao (a0q rest bad).1.length cap)∧OwnB w' w.heap.size ao cap (a0q rest bad).1∧St W w' (thRd p g (a0q rest bad).2.1 (a0q rest bad).2.2::L):=by
 refine (q0i p g rest bad w h.head hm).mono ?_
 rintro e w' ⟨x,r',b',ao,cap,ht,rfl,ho,hr,hk⟩
 rw [←ht]
 exact ⟨ao,cap,rfl,ho,h.read hr hk (d0n ht).2⟩
theorem St.d0s {W w:World} {L:List Th} {p g:Nat} {rest:List UInt8} {bad:Bool} (h:St W w (thRR p g rest bad::L)) (hm:rest.length≤140737488351232) :
 Calls Tryz.prog 60 #[.pointer (some ⟨p,0,none⟩)] w fun e w'=>e=.returned (aI aK ((numT rest bad).1:Nat))∧St W w' (thRR p g (numT rest bad).2.1 (numT rest bad).2.2::L):=by
 refine (v0v p g rest bad 0 w h.head hm).mono ?_
 rintro e w' ⟨rfl,hr,hk⟩
 exact ⟨rfl,h.readR hr hk (e0u _ _).1⟩
theorem St.f0o {W w:World} {L:List Th} {p g:Nat} {rest:List UInt8} {bad:Bool} (h:St W w (thRR p g rest bad::L)) (hm:rest.length≤140737488351232) :
 Calls Tryz.prog 61 #[.pointer (some ⟨p,0,none⟩)] w fun e w'=>∃ ao cap,e=.returned (.slice ao (a0q rest bad).1.length cap)∧OwnB w' w.heap.size ao cap (a0q rest bad).1∧St W w' (thRR p g (a0q rest bad).2.1 (a0q rest bad).2.2::L):=by
 refine (f0t p g rest bad w h.head hm).mono ?_
 rintro e w' ⟨x,r',b',ao,cap,ht,rfl,ho,hr,hk⟩
 rw [←ht]
 exact ⟨ao,cap,rfl,ho,h.readR hr hk (d0n ht).2⟩
end Go.Proofs.YtogamdaomdoapaaGreat
namespace Go.Proofs.YtogamdaomdoapaaGreat.O
open Go.Value renaming int→aI
open Go.IntKind renaming i64→aK
open List renaming length_append→lL
open Bool renaming and_eq_true→bA
open Go.RowKit
set_option maxRecDepth 20000
structure ZIs (r:List UInt8) (b:Bool) (zid:Nat) (fr to:List UInt8) (owner epoch pend tt:Nat) (key:List UInt8) (nw:Nat) (r1:List UInt8) (b1:Bool) (r2:List UInt8) (b2:Bool) (r3:List UInt8) (b3:Bool) (r4:List UInt8) (b4:Bool) (r5:List UInt8) (b5:Bool) (r6:List UInt8) (b6:Bool):Prop where
 e1:numT r b=(zid,r1,b1)
 e2:a0q r1 b1=(fr,r2,b2)
 e3:a0q r2 b2=(to,r3,b3)
 v0:owner=a0j r3 b3 0
 v1:epoch=a0j r3 b3 1
 v2:pend=a0j r3 b3 2
 v3:tt=a0j r3 b3 3
 e4:rdSt r3 b3 4=(r4,b4)
 e5:a0q r4 b4=(key,r5,b5)
 e6:numT r5 b5=(nw,r6,b6)
 l1:r1.length≤r.length
 l2:r2.length≤r.length
 l3:r3.length≤r.length
 l4:r4.length≤r.length
 l5:r5.length≤r.length
 l6:r6.length≤r.length
 k1:fr.length≤r.length
 k2:to.length≤r.length
 k3:key.length≤r.length
 nb:nw≤4611686018427387904
 rd:rdZ (r,b)=⟨zid,txt fr,txt to,owner,epoch,pend,tt,txt key,nw⟩
 st:s6 (r,b)=(r6,b6)
theorem eta3 {α β γ:Type} (t:α × β × γ):t=(t.1,t.2.1,t.2.2):=rfl
theorem e0k {r x r':List UInt8} {b b':Bool} (h:a0q r b=(x,r',b')):x.length≤r.length∧r'.length≤r.length:=d0n h.symm
theorem zis (r:List UInt8) (b:Bool):∃ zid fr to owner epoch pend tt key nw r1 b1 r2 b2 r3 b3 r4 b4 r5 b5 r6 b6,ZIs r b zid fr to owner epoch pend tt key nw r1 b1 r2 b2 r3 b3 r4 b4 r5 b5 r6 b6:=by
 obtain ⟨zid,r1,b1,e1⟩:∃ n x y,numT r b=(n,x,y):=⟨_,_,_,eta3 _⟩
 obtain ⟨fr,r2,b2,e2⟩:∃ n x y,a0q r1 b1=(n,x,y):=⟨_,_,_,eta3 _⟩
 obtain ⟨to,r3,b3,e3⟩:∃ n x y,a0q r2 b2=(n,x,y):=⟨_,_,_,eta3 _⟩
 obtain ⟨r4,b4,e4⟩:∃ x y,rdSt r3 b3 4=(x,y):=⟨_,_,rfl⟩
 obtain ⟨key,r5,b5,e5⟩:∃ n x y,a0q r4 b4=(n,x,y):=⟨_,_,_,eta3 _⟩
 obtain ⟨nw,r6,b6,e6⟩:∃ n x y,numT r5 b5=(n,x,y):=⟨_,_,_,eta3 _⟩
 have h1:a0j r b 0=zid:=by unfold a0j;rw [rz];dsimp only;rw [e1]
 have h1s:rdSt r b 1=(r1,b1):=by
  have:=b0j r b 0 1 rfl
  rw [rz] at this
  dsimp only at this
  rw [e1] at this
  simp only [Prod.mk.injEq] at this
  rw [←Prod.eta (rdSt r b 1),←this.2.1,←this.2.2]
 have h6:a0j r5 b5 0=nw:=by unfold a0j;rw [rz];dsimp only;rw [e6]
 have h6s:rdSt r5 b5 1=(r6,b6):=by
  have:=b0j r5 b5 0 1 rfl
  rw [rz] at this
  dsimp only at this
  rw [e6] at this
  simp only [Prod.mk.injEq] at this
  rw [←Prod.eta (rdSt r5 b5 1),←this.2.1,←this.2.2]
 have a2:t2 (r,b)=(fr,r2,b2):=by unfold t2 s1;dsimp only;rw [h1s];exact e2
 have a3:t3 (r,b)=(to,r3,b3):=by unfold t3;rw [a2];exact e3
 have a4:s4 (r,b)=(r4,b4):=by unfold s4;rw [a3];exact e4
 have a5:t5 (r,b)=(key,r5,b5):=by unfold t5;rw [a4];exact e5
 have a6:s6 (r,b)=(r6,b6):=by unfold s6;rw [a5];exact h6s
 have l1:r1.length≤r.length:=by have:=(e0u r b).1;rw [e1] at this;exact this
 obtain ⟨k2,l2⟩:=e0k e2
 obtain ⟨k3,l3⟩:=e0k e3
 have l4:r4.length≤r3.length:=by have:=b0f r3 b3 4;rw [e4] at this;exact this
 obtain ⟨k5,l5⟩:=e0k e5
 have l6:r6.length≤r5.length:=by have:=(e0u r5 b5).1;rw [e6] at this;exact this
 have nb:nw≤4611686018427387904:=by rw [←h6];exact d0i _ _ _
 have hrd:rdZ (r,b)=⟨zid,txt fr,txt to,a0j r3 b3 0,a0j r3 b3 1,a0j r3 b3 2,a0j r3 b3 3,txt key,nw⟩:=by
  unfold rdZ
  rw [a2,a3,a5]
  dsimp only
  rw [h1,h6]
 exact ⟨zid,fr,to,a0j r3 b3 0,a0j r3 b3 1,a0j r3 b3 2,a0j r3 b3 3,key,nw,r1,b1,r2,b2,r3,b3,r4,b4,r5,b5,r6,b6,⟨e1,e2,e3,rfl,rfl,rfl,rfl,e4,e5,e6,l1,by omega,by omega,by omega,by omega,by omega,by omega,by omega,by omega,nb,hrd,a6⟩⟩
theorem r0r (l:List UInt8):(txt l).size=l.length:=by simp [txt,ByteArray.size]
theorem n0t (s:ByteArray):1≤(encS s).length:=by
 have:=(a0o s.data.toList.length).2
 simp only [encS,a0n,lL]
 omega
theorem encZ_pos (z:Zn):9≤(encZ z).length:=by
 have h1:=(a0o (a0l z.id)).2
 have h2:=(a0o (a0l z.owner)).2
 have h3:=(a0o (a0l z.epoch)).2
 have h4:=(a0o (a0l z.pend)).2
 have h5:=(a0o (a0l z.tt)).2
 have h6:=(a0o (a0l z.nw)).2
 have h7:=n0t z.fr
 have h8:=n0t z.to
 have h9:=n0t z.key
 unfold encZ
 simp only [d0y,e0o,List.append_nil,lL]
 omega
theorem v0t {s:Rs} (h:(s6 s).2=false):(s6 s).1.length+9≤s.1.length:=by
 obtain ⟨-,h2⟩:=s0n h
 have h1:=encZ_pos (rdZ s)
 have:=congrArg List.length h2
 rw [lL] at this
 omega
theorem q0n (w:World) (n:Nat) (hn:n=w.heap.size) (cur:Array Value) (t:TypeId):∀ ad,(some ⟨n,0,none⟩:Option Addr)=some ad→∀ (j:Nat) u,cur.toList[j]?=some u→(w.alloc (.cells cur t)).cell? (ad.add j)=some u:=by
 subst hn
 intro ad e j u hu
 obtain rfl:=Option.some.inj e
 rw [c0q,Nat.zero_add,(b0b (b0r w _)).1]
 simpa using hu
def zz9:Array Value:=#[aI aK 0,.string ⟨#[]⟩,.string ⟨#[]⟩,aI aK 0,aI aK 0,aI aK 0,aI aK 0,.string ⟨#[]⟩,aI aK 0]
theorem o0b:(Tryz.prog.info? 125).map (fun i=>(i.zero,i.size,i.bytes))=some (some (.agg zz9),9,96):=by kernel_rfl
structure RdI (l:List UInt8) (j:Nat) (L:List Zn) (r:List UInt8) (b:Bool):Prop where
 all:rdZs (a0j l false 2) (rdSt l false 3)=(L++(rdZs j (r,b)).1,(rdZs j (r,b)).2)
 good:b=false→9 * L.length+r.length≤l.length
 len:9 * L.length≤l.length+9
 left:r.length≤l.length
 sz:∀ z∈L,z.fr.size≤l.length∧z.to.size≤l.length∧z.key.size≤l.length∧0≤z.nw∧z.nw≤4611686018427387904
theorem i0h (k:Nat) (s:Rs):rdZs (k+1) s=if s.2=true then ([],s) else (rdZ s::(rdZs k (s6 s)).1,(rdZs k (s6 s)).2):=rfl
theorem RdI.start (l:List UInt8):RdI l (a0j l false 2) [] (rdSt l false 3).1 (rdSt l false 3).2 :=
 ⟨rfl,fun _=>by simpa using b0f l false 3,by simp,b0f l false 3,fun _ h=>by simp at h⟩
theorem RdI.next {l:List UInt8} {j:Nat} {L:List Zn} {r:List UInt8} (h:RdI l (j+1) L r false) {zid:Nat} {fr to:List UInt8} {owner epoch pend tt:Nat} {key:List UInt8} {nw:Nat} {r1:List UInt8} {b1:Bool} {r2:List UInt8} {b2:Bool} {r3:List UInt8} {b3:Bool} {r4:List UInt8} {b4:Bool} {r5:List UInt8} {b5:Bool} {r6:List UInt8} {b6:Bool}
 (z:ZIs r false zid fr to owner epoch pend tt key nw r1 b1 r2 b2 r3 b3 r4 b4 r5 b5 r6 b6):RdI l j (L++[⟨zid,txt fr,txt to,owner,epoch,pend,tt,txt key,nw⟩]) r6 b6:=by
 have hg:=h.good rfl
 refine ⟨?_,fun hb=>?_,by simp;omega,Nat.le_trans z.l6 h.left,fun y hy=>?_⟩
 ·rw [h.all]
  have:rdZs (j+1) (r,false)=(rdZ (r,false)::(rdZs j (s6 (r,false))).1,(rdZs j (s6 (r,false))).2):=by
   rw [i0h,if_neg (by simp)]
  rw [this,z.rd,z.st]
  simp
 ·have h6:(s6 (r,false)).2=false:=by rw [z.st];exact hb
  have:=v0t h6
  rw [z.st] at this
  simp only [lL,List.length_cons,List.length_nil] at this ⊢
  omega
 ·rcases List.mem_append.1 hy with hy | hy
  ·exact h.sz y hy
  ·obtain rfl:=List.mem_singleton.1 hy
   simp only [r0r]
   have:=z.k1;have:=z.k2;have:=z.k3;have:=z.nb;have:=h.left
   omega
theorem RdI.done {l:List UInt8} {j:Nat} {L:List Zn} {r:List UInt8} {b:Bool} (h:RdI l j L r b) (he:j=0∨b=true):decM l=(⟨a0j l false 0,a0j l false 1,L⟩,r,b):=by
 have e:rdZs j (r,b)=([],r,b):=by
  rcases he with rfl | rfl
  ·rfl
  ·cases j with
   | zero=>rfl
   | succ j=>rw [i0h,if_pos rfl]
 unfold decM
 rw [h.all,e]
 simp
end Go.Proofs.YtogamdaomdoapaaGreat.O
namespace Go.Proofs.YtogamdaomdoapaaGreat.O
open Go.Value renaming int→aI
open Go.IntKind renaming i64→aK
open List renaming length_append→lL
open Bool renaming and_eq_true→bA
def cntN (l:List Zn) (n:Int):Nat:=(l.filter fun z=>z.nw==n).length
theorem h0d (a b:List Zn) (n:Int):cntN (a++b) n=cntN a n+cntN b n:=by simp [cntN]
theorem y0n {l:List Zn} {n:Int} {z:Zn} (h:z∈l) (hz:z.nw=n):0<cntN l n:=by
 unfold cntN
 exact List.length_pos_iff_exists_mem.2 ⟨z,List.mem_filter.2 ⟨h,by simpa using hz⟩⟩
theorem k0e {l:List Zn} {n:Int} (h:∀ z∈l,z.nw≠n):cntN l n=0:=by
 unfold cntN
 rw [List.length_eq_zero_iff,List.filter_eq_nil_iff]
 intro z hz
 simpa using h z hz
theorem cnt_lt {l:List Zn} {n:Int} {i k:Nat} (hi:i<l.length) (hk:k<l.length) (hik:i<k) (h1:l[i].nw=n) (h2:l[k].nw=n):2≤cntN l n:=by
 have e:=h0d (l.take k) (l.drop k) n
 rw [List.take_append_drop] at e
 have a:=y0n (l:=l.take k) (n:=n) (z:=l[i]) (List.mem_take_iff_getElem.2 ⟨i,by omega,rfl⟩) h1
 have b:=y0n (l:=l.drop k) (n:=n) (z:=l[k]) (by rw [List.drop_eq_getElem_cons hk];exact List.mem_cons_self) h2
 omega
theorem cnt_uniq {l:List Zn} {n:Int} {i k:Nat} (h:cntN l n=1) (hi:i<l.length) (hk:k<l.length) (h1:l[i].nw=n) (h2:l[k].nw=n):i=k:=by
 rcases Nat.lt_trichotomy i k with c | c | c
 ·have:=cnt_lt hi hk c h1 h2;omega
 ·exact c
 ·have:=cnt_lt hk hi c h2 h1;omega
theorem cnt_one {l:List Zn} {n:Int} {i:Nat} (hi:i<l.length) (h1:l[i].nw=n) (h:∀ k (hk:k<l.length),k≠i→l[k].nw≠n):cntN l n=1:=by
 have e:=h0d (l.take i) (l.drop i) n
 rw [List.take_append_drop,List.drop_eq_getElem_cons hi] at e
 have a:cntN (l.take i) n=0:=k0e fun z hz=>by
  obtain ⟨j,hj,rfl⟩:=List.mem_take_iff_getElem.1 hz
  exact h j (by omega) (by omega)
 have b:cntN (l.drop (i+1)) n=0:=k0e fun z hz=>by
  obtain ⟨j,hj,rfl⟩:=List.mem_iff_getElem.1 hz
  rw [List.getElem_drop]
  exact h _ _ (by omega)
 have c:cntN (l[i]::l.drop (i+1)) n=1+cntN (l.drop (i+1)) n:=by
  unfold cntN
  rw [List.filter_cons_of_pos (by simpa using h1)]
  simp;omega
 omega
def fcnt (l:List Zn) (x:Int):Int:=if x=0 then 0 else (cntN l x:Nat)
theorem fcnt_one {l:List Zn} {n:Int} (h:fcnt l n=1):cntN l n=1:=by
 unfold fcnt at h
 split at h<;>omega
def m0e (m:Mp) (z:Zn):Bool:=e0y z.fr z.to z.key&&(decide (z.tt=0∧1≤z.nw∧z.nw<m.next)&&(decide (fcnt m.zs z.nw=1)&&(c0w m.zs z.nw).isNone))
def o0w (m:Mp) (i:Nat) (z:Zn):Bool:=if z.pend=0 then decide (z.tt=0∧z.key.toList=[]∧z.nw=0) else if z.pend=3 then decide (1≤z.tt∧z.tt≤1048576∧z.tt≠z.owner∧z.key.toList=[]∧z.nw=0) else if z.pend=1 then m0e m z else if z.pend=2 then (b0n m.zs i z&&decide (fcnt m.zs z.nw=1)) else false
def j0a (m:Mp) (i:Nat) (z:Zn):Bool:=b0x m i z&&o0w m i z
def o0x (m:Mp):Bool:=decide (1≤m.ver∧m.ver≤1099511627776∧1≤m.next∧m.next≤1099511627776∧1≤m.zs.length∧m.zs.length≤16)
def pAll (m:Mp):Bool:=(List.range m.zs.length).all fun i=>j0a m i (m.zs.getD i zq)
def pMay (m:Mp):Bool:=o0x m&&(sAll (m.zs.map spz)&&pAll m)
theorem getD_at {l:List Zn} {i:Nat} (h:i<l.length):l.getD i zq=l[i]:=by simp [h]
theorem pKind_of {m:Mp} {i:Nat} (hi:i<m.zs.length) (h:o0w m i m.zs[i]=true):g0k m i m.zs[i]=true:=by
 unfold o0w at h
 unfold g0k
 split at h
 ·rename_i p;rw [if_pos p];exact h
 ·rename_i p0
  rw [if_neg p0]
  split at h
  ·rename_i p;rw [if_pos p];exact h
  ·rename_i p3
   rw [if_neg p3]
   split at h
   ·rename_i p1
    rw [if_pos p1]
    unfold m0e at h
    simp only [bA,decide_eq_true_eq] at h
    obtain ⟨h1,h2,h3,h4⟩:=h
    unfold c0c
    rw [h1,h4,decide_eq_true h2,l0o (fun k hk hki hp hn=>hki (cnt_uniq (fcnt_one h3) hk hi hn rfl))]
    rfl
   ·rename_i p1
    rw [if_neg p1]
    split at h
    ·rename_i p2
     rw [if_pos p2]
     exact (bA _ _▸h:_∧_).1
    ·cases h
theorem f0r {m:Mp} (h:(List.range m.zs.length).all (fun i=>d0d m i (m.zs.getD i zq))=true) {i:Nat} (hi:i<m.zs.length):b0x m i m.zs[i]=true∧g0k m i m.zs[i]=true:=by
 have:=List.all_eq_true.1 h i (by simpa using hi)
 rw [getD_at hi] at this
 unfold d0d at this
 exact bA _ _▸this
theorem i0m {m:Mp} {i:Nat} {z:Zn} (h:b0x m i z=true):1≤z.id∧c0w m.zs z.id=some i:=by
 unfold b0x at h
 rw [decide_eq_true_eq] at h
 exact ⟨h.1,h.2.2.1⟩
theorem nw_of {m:Mp} (h:(List.range m.zs.length).all (fun i=>d0d m i (m.zs.getD i zq))=true) {i:Nat} (hi:i<m.zs.length) (hp:m.zs[i].pend=1∨m.zs[i].pend=2):m.zs[i].nw≠0:=by
 obtain ⟨a1,a2⟩:=f0r h hi
 unfold g0k at a2
 rcases hp with hp | hp
 ·rw [if_neg (by omega),if_neg (by omega),if_pos hp] at a2
  unfold c0c at a2
  simp only [bA,decide_eq_true_eq] at a2
  omega
 ·rw [if_neg (by omega),if_neg (by omega),if_neg (by omega),if_pos hp] at a2
  unfold b0n at a2
  cases hf:c0w m.zs m.zs[i].nw with
  | none=>rw [hf] at a2;cases a2
  | some j =>
   obtain ⟨y,hy,hyid,-⟩:=g0o hf
   obtain ⟨hjl,hje⟩:=List.getElem?_eq_some_iff.1 hy
   have:=(i0m (f0r h hjl).1).1
   rw [hje,hyid] at this
   omega
theorem cnt_of {m:Mp} (h:(List.range m.zs.length).all (fun i=>d0d m i (m.zs.getD i zq))=true) {i:Nat} (hi:i<m.zs.length) (hp:m.zs[i].pend=1∨m.zs[i].pend=2):cntN m.zs m.zs[i].nw=1:=by
 obtain ⟨a1,a2⟩:=f0r h hi
 refine cnt_one hi rfl fun k hk hki hn=>?_
 obtain ⟨b1,b2⟩:=f0r h hk
 unfold g0k at a2 b2
 rcases hp with hp | hp
 ·rw [if_neg (by omega),if_neg (by omega),if_pos hp] at a2
  unfold c0c at a2
  simp only [bA,decide_eq_true_eq,Bool.not_eq_true'] at a2
  obtain ⟨-,⟨-,h2,-⟩,h3,h4⟩:=a2
  split at b2
  ·rw [decide_eq_true_eq] at b2;omega
  ·split at b2
   ·rw [decide_eq_true_eq] at b2;omega
   ·split at b2
    ·rename_i q
     rw [p0s hk hki q hn] at h4
     cases h4
    ·split at b2
     ·unfold b0n at b2
      rw [hn] at b2
      cases hf:c0w m.zs m.zs[i].nw with
      | none=>rw [hf] at b2;cases b2
      | some j=>rw [hf] at h3;cases h3
     ·cases b2
 ·rw [if_neg (by omega),if_neg (by omega),if_neg (by omega),if_pos hp] at a2
  unfold b0n at a2
  cases hf:c0w m.zs m.zs[i].nw with
  | none=>rw [hf] at a2;cases a2
  | some j =>
   rw [hf] at a2
   simp only [bA,decide_eq_true_eq] at a2
   obtain ⟨-,-,h6,-⟩:=a2
   obtain ⟨y,hy,hyid,-⟩:=g0o hf
   obtain ⟨hjl,hje⟩:=List.getElem?_eq_some_iff.1 hy
   obtain ⟨c1,-⟩:=f0r h hjl
   have hn0:1≤m.zs[i].nw:=by
    have:=(i0m c1).1
    rw [hje,hyid] at this
    exact this
   split at b2
   ·rw [decide_eq_true_eq] at b2;omega
   ·split at b2
    ·rw [decide_eq_true_eq] at b2;omega
    ·split at b2
     ·unfold c0c at b2
      rw [hn,hf] at b2
      simp at b2
     ·split at b2
      ·unfold b0n at b2
       rw [hn,hf] at b2
       simp only [bA,decide_eq_true_eq] at b2
       have e:m.zs[i].id=m.zs[k].id:=h6.symm.trans b2.2.2.1
       have f1:=(i0m a1).2
       rw [e,(i0m b1).2] at f1
       exact hki (Option.some.inj f1)
      ·cases b2
theorem pKind_mk {m:Mp} (h:(List.range m.zs.length).all (fun i=>d0d m i (m.zs.getD i zq))=true) {i:Nat} (hi:i<m.zs.length):o0w m i m.zs[i]=true:=by
 obtain ⟨a1,a2⟩:=f0r h hi
 have hc:m.zs[i].pend=1∨m.zs[i].pend=2→fcnt m.zs m.zs[i].nw=1:=fun hp=>by
  have h1:=cnt_of h hi hp
  have h2:=nw_of h hi hp
  unfold fcnt
  rw [if_neg h2]
  omega
 unfold o0w
 unfold g0k at a2
 split
 ·rename_i p;rw [if_pos p] at a2;exact a2
 ·rename_i p0
  rw [if_neg p0] at a2
  split
  ·rename_i p;rw [if_pos p] at a2;exact a2
  ·rename_i p3
   rw [if_neg p3] at a2
   split
   ·rename_i p1
    rw [if_pos p1] at a2
    unfold c0c at a2
    simp only [bA,decide_eq_true_eq] at a2
    unfold m0e
    rw [a2.1,decide_eq_true a2.2.1,a2.2.2.1,decide_eq_true (hc (.inl p1))]
    rfl
   ·rename_i p1
    rw [if_neg p1] at a2
    split
    ·rename_i p2
     rw [if_pos p2] at a2
     rw [a2,decide_eq_true (hc (.inr p2))]
     rfl
    ·rename_i p2
     rw [if_neg p2] at a2
     exact a2
theorem pMay_eq (m:Mp):pMay m=mayM m:=by
 rw [Bool.eq_iff_iff]
 unfold pMay o0x pAll mayM
 simp only [bA,decide_eq_true_eq]
 constructor
 ·rintro ⟨⟨h1,h2,h3,h4,-,h6⟩,h7,h8⟩
  refine ⟨⟨h1,h2,h3,h4,h6⟩,?_,by rw [←k0f];exact h7⟩
  rw [List.all_eq_true] at h8 ⊢
  intro i hi
  have hi2:i<m.zs.length:=by simpa using hi
  have:=h8 i hi
  rw [getD_at hi2] at this ⊢
  unfold j0a at this
  unfold d0d
  rw [bA] at this ⊢
  exact ⟨this.1,pKind_of hi2 this.2⟩
 ·rintro ⟨⟨h1,h2,h3,h4,h5⟩,h6,h7⟩
  refine ⟨⟨h1,h2,h3,h4,?_,h5⟩,by rw [k0f];exact h7,?_⟩
  ·rcases Nat.eq_zero_or_pos m.zs.length with h0 | h0
   ·rw [List.length_eq_zero_iff.1 h0] at h7;cases h7
   ·exact h0
  ·have h6':=h6
   rw [List.all_eq_true]
   intro i hi
   have hi2:i<m.zs.length:=by simpa using hi
   rw [getD_at hi2]
   unfold j0a
   rw [bA]
   exact ⟨(f0r h6 hi2).1,pKind_mk h6' hi2⟩
end Go.Proofs.YtogamdaomdoapaaGreat.O
namespace Go.Proofs.YtogamdaomdoapaaGreat.O
open Go.Value renaming int→aI
open Go.IntKind renaming i64→aK
open List renaming length_append→lL
open Bool renaming and_eq_true→bA
open Go.RowKit Go.Maps
set_option maxRecDepth 20000
theorem keyLaw:Keyed Tryz.prog 3:=int_keyed Tryz.underlying3
theorem zeroInt (w:World):(zeroValue 3).run Tryz.prog w=.ok (aI aK 0) w:=by kernel_rfl
def e0i (w:World) (b k:Nat) (f:Int→Int):Prop:=∃ n D,w.ownsMap (H:=Unit) Tryz.prog 3 (plainElem Tryz.prog 3) b n D∧n≤k∧IsMap D∧∀ x,(Lit.int .i64 x).wf=true→D.atKey (.int .i64 x) (.lit (.int .i64 0))=.lit (.int .i64 (f x))
theorem e0i.look {w:World} {b k:Nat} {f:Int→Int} (h:e0i w b k f) (x:Int) (hx:(Lit.int .i64 x).wf=true):(Instr.lookup 195 (.map (some b)) (aI aK x) false).run Tryz.prog w=.ok (aI aK (f x)) w:=by
 obtain ⟨n,D,ho,-,-,hat⟩:=h
 obtain ⟨c,hrun,hc,-⟩:=ho.lookup_int keyLaw Tryz.underlying195 Tryz.underlying3 (zeroInt _) (keyOf_int_mk Tryz.underlying3 hx)
 rw [hat x hx] at hc
 simp only [DataW.lit.injEq,Lit.int.injEq,true_and] at hc
 rw [hrun,hc]
theorem e0i.lt {w:World} {b k:Nat} {f:Int→Int} (h:e0i w b k f):b<w.heap.size:=by
 obtain ⟨n,D,ho,-⟩:=h
 exact ho.lt
theorem e0i.grow {w w':World} {b k:Nat} {f:Int→Int} (h:e0i w b k f) (hb:Below w.heap.size w w'):e0i w' b k f:=by
 obtain ⟨n,D,⟨es,clock,h1,h2⟩,r⟩:=h
 exact ⟨n,D,⟨es,clock,(hb.block b (lt_of_block h1)).trans h1,h2⟩,r⟩
theorem e0i.new (w:World):e0i (w.alloc (.map #[] 0)) w.heap.size 0 (fun _=>0) :=
 ⟨0,.map [],World.ownsMap_made _ _ _ _,Nat.le_refl _,⟨_,rfl⟩,fun _ _=>rfl⟩
theorem e0i.mono {w:World} {b k k':Nat} {f:Int→Int} (h:e0i w b k f) (hk:k≤k'):e0i w b k' f:=by
 obtain ⟨n,D,h1,h2,r⟩:=h
 exact ⟨n,D,h1,Nat.le_trans h2 hk,r⟩
theorem e0i.congr {w:World} {b k:Nat} {f g:Int→Int} (h:e0i w b k f) (hfg:∀ x,f x=g x):e0i w b k g:=by
 obtain ⟨n,D,h1,h2,h3,h4⟩:=h
 exact ⟨n,D,h1,h2,h3,fun x hx=>by rw [←hfg];exact h4 x hx⟩
def l0r (b k:Nat) (f:Int→Int):Th where
 T w:=e0i w b k f
 F x:=x=b
 stay h k hS:=by
  obtain ⟨n,D,⟨es,clock,h1,h2⟩,r⟩:=h
  exact ⟨n,D,⟨es,clock,(k.block b (lt_of_block h1) (hS b rfl)).trans h1,h2⟩,r⟩
 lt h e:=e▸h.lt
theorem e0i.put {w:World} {b k:Nat} {f:Int→Int} (h:e0i w b k f) (hk:k≤1000) (x v:Int) (hx:(Lit.int .i64 x).wf=true) (hv:(Lit.int .i64 v).wf=true) :
 ∃ w',(Instr.mapUpdate 195 (.map (some b)) (aI aK x) (aI aK v)).run Tryz.prog w=.ok () w'∧e0i w' b (k+1) (fun y=>if y=x then v else f y)∧Keeps w w' (fun z=>z=b):=by
 obtain ⟨n,D,ho,hn,hD,hat⟩:=h
 obtain ⟨w',hrun,r1,r2⟩:=ho.update keyLaw Tryz.underlying195 (by unfold maxLen;omega) (keyOf_int_mk Tryz.underlying3 hx) (plainElem_int Tryz.underlying3 hv)
 refine ⟨w',hrun,⟨n+1,_,r1,by omega,hD.put _ _,fun y hy=>?_⟩,(Keeps.grown r2).weak (fun i _ e=>by cases e;rfl)⟩
 by_cases e:y=x
 ·subst e
  simp only [if_true]
  rw [atKey_put_same hD (show WideAt.IsKeyLit (.int .i64 y) from trivial)]
 ·simp only [e,if_false]
  rw [atKey_put_other (fun h=>e (by simpa using h))]
  exact hat y hy
end Go.Proofs.YtogamdaomdoapaaGreat.O