/- Texts put together: RdSt, ODp, OMp, OCn. -/
import Derived.Test.YthlcmjgdilebeaaGreatQb05
import Derived.Test.YthlcmjgdilebeaaGreatQb07
import Derived.Test.YthlcmjgdilebeaaGreatQb08
import Derived.Test.YthlcmjgdilebeaaGreatQb10
import Derived.Maps.Own
import Derived.Maps.OwnOps
import Derived.Maps.Views
namespace Go.Proofs.YthlcmjgdilebeaaGreat
open Go.RowKit
set_option maxRecDepth 20000
theorem set_objF {w:World} {b o:Nat} {cur:Array Value} {t:TypeId} {fr:Nat × Nat} {v:Value} (h:w.heap[b]?=some (.cells cur t fr)):(w.setCell ⟨b,o,none⟩ v).heap[b]?=some (.cells (cur.setIfInBounds o v) t fr):=by
 simp [World.setCell,Array.getElem?_modify,h]
theorem St.setObj {W w:World} {L:List Th} {b:Nat} {cur:Array Value} {t:TypeId} (h:St W w (thObj b (.cells cur t (0,0))::L)) (o:Nat) (v:Value):St W (w.setCell ⟨b,o,none⟩ v) (thObj b (.cells (cur.setIfInBounds o v) t (0,0))::L) :=
 h.step (Keeps.set w ⟨b,o,none⟩ v) _ (set_objF h.head) (fun _ hx=>.inl hx)
abbrev Ob:=Nat × Array Value × TypeId
def thOb (x:Ob):Th:=thObj x.1 (.cells x.2.1 x.2.2 (0,0))
def putOb:List Ob→Nat→Nat→Value→List Ob
 | [],_,_,_=>[]
 | x::r,0,o,v=>(x.1,x.2.1.setIfInBounds o v,x.2.2)::r
 | x::r,i+1,o,v=>x::putOb r i o v
def putObs (O:List Ob) (ps:List (Nat × Nat)) (val:Nat→Nat):Nat→List Ob
 | 0=>O
 | k+1=>match ps[k]? with
  | some q=>putOb (putObs O ps val k) q.1 q.2 (.int .i64 (val k:Nat))
  | none=>putObs O ps val k
def blk (O:List Ob) (i:Nat):Nat:=(O.map (·.1)).getD i 0
def adOf (O:List Ob) (q:Nat × Nat):Option Addr:=some ⟨blk O q.1,q.2,none⟩
theorem putOb_fst:∀ (O:List Ob) (i o:Nat) (v:Value),(putOb O i o v).map (·.1)=O.map (·.1)
 | [],_,_,_=>rfl
 | _::_,0,_,_=>rfl
 | x::r,i+1,o,v=>by simp only [putOb,List.map_cons,putOb_fst r i o v]
theorem putObs_fst (O:List Ob) (ps:List (Nat × Nat)) (val:Nat→Nat) (k:Nat):(putObs O ps val k).map (·.1)=O.map (·.1):=by
 induction k with
 | zero=>rfl
 | succ k ih =>
  simp only [putObs]
  split
  ·rw [putOb_fst,ih]
  ·exact ih
theorem blk_mem {O:List Ob} {i:Nat} (h:i<O.length):∃ x∈O,x.1=blk O i:=by
 refine ⟨O[i],List.getElem_mem h,?_⟩
 simp [blk,List.getD,h]
theorem putOb_heap:∀ {O:List Ob} {w:World} (_:(O.map (·.1)).Nodup) (_:∀ x∈O,w.heap[x.1]?=some (.cells x.2.1 x.2.2 (0,0))) (i o:Nat) (v:Value) (_:i<O.length),∀ x∈putOb O i o v,(w.setCell ⟨blk O i,o,none⟩ v).heap[x.1]?=some (.cells x.2.1 x.2.2 (0,0))
 | [],_,_,_,_,_,_,hi=>by simp at hi
 | x::r,w,hd,h,0,o,v,_=>by
  intro y hy
  simp only [putOb,List.mem_cons] at hy
  rcases hy with rfl | hy
  ·exact set_objF (h x (by simp))
  ·have hne:y.1≠x.1:=fun e=>(List.nodup_cons.1 hd).1 (by show x.1∈_;rw [←e];exact List.mem_map_of_mem hy)
   exact (Below.heap_setCell _ _ _ _ hne).trans (h y (by simp [hy]))
 | x::r,w,hd,h,i+1,o,v,hi=>by
  intro y hy
  have hi2:i<r.length:=by simpa using hi
  have hb:blk (x::r) (i+1)=blk r i:=by simp [blk]
  rw [hb]
  simp only [putOb,List.mem_cons] at hy
  rcases hy with rfl | hy
  ·have hne:y.1≠blk r i:=fun e=>by
    obtain ⟨z,hz,e2⟩:=blk_mem hi2
    exact (List.nodup_cons.1 hd).1 (by show y.1∈_;rw [e,←e2];exact List.mem_map_of_mem hz)
   exact (Below.heap_setCell _ _ _ _ hne).trans (h y (by simp))
  ·exact putOb_heap (List.nodup_cons.1 hd).2 (fun z hz=>h z (by simp [hz])) i o v hi2 y hy
theorem blk_fst {O O':List Ob} (h:O.map (·.1)=O'.map (·.1)) (i:Nat):blk O i=blk O' i:=by unfold blk;rw [h]
theorem putObs_heap {O:List Ob} {w:World} (hd:(O.map (·.1)).Nodup) (h:∀ x∈O,w.heap[x.1]?=some (.cells x.2.1 x.2.2 (0,0))) (ps:List (Nat × Nat)) (hps:∀ q∈ps,q.1<O.length) (val:Nat→Nat) (k:Nat):∀ x∈putObs O ps val k,(setPs w (ps.map (adOf O)) val k).heap[x.1]?=some (.cells x.2.1 x.2.2 (0,0)):=by
 induction k with
 | zero=>exact h
 | succ k ih =>
  simp only [putObs,setPs,List.getElem?_map]
  cases hq:ps[k]? with
  | none=>exact ih
  | some q =>
   simp only [Option.map_some,adOf]
   have hf:=putObs_fst O ps val k
   rw [←blk_fst hf q.1]
   have hl:=congrArg List.length hf
   simp only [List.length_map] at hl
   exact putOb_heap (by rw [hf];exact hd) ih q.1 q.2 _ (by rw [hl];exact hps q (List.mem_of_getElem? hq))
theorem Ths.obs {B:Nat} {w:World}:∀ {O:List Ob} {L:List Th},Ths B w (O.map thOb++L)→(O.map (·.1)).Nodup∧(∀ x∈O,w.heap[x.1]?=some (.cells x.2.1 x.2.2 (0,0)))∧(∀ x∈O,B≤x.1)∧(∀ x∈O,∀ u∈L,¬u.F x.1)∧Ths B w L
 | [],L,h=>⟨by simp,by simp,by simp,by simp,h⟩
 | x::r,L,h=>by
  obtain ⟨h1,h2,h3,h4⟩:=h
  obtain ⟨g1,g2,g3,g4,g5⟩:=Ths.obs (O:=r) h4
  refine ⟨?_,?_,?_,?_,g5⟩
  ·rw [List.map_cons,List.nodup_cons]
   refine ⟨fun hm=>?_,g1⟩
   obtain ⟨y,hy,e⟩:=List.mem_map.1 hm
   exact h3 (thOb y) (List.mem_append.2 (.inl (List.mem_map.2 ⟨y,hy,rfl⟩))) x.1 rfl e.symm
  ·intro y hy
   rcases List.mem_cons.1 hy with rfl | hy
   ·exact h1
   ·exact g2 y hy
  ·intro y hy
   rcases List.mem_cons.1 hy with rfl | hy
   ·exact h2 _ rfl
   ·exact g3 y hy
  ·intro y hy u hu
   rcases List.mem_cons.1 hy with rfl | hy
   ·exact h3 u (by simp [hu]) y.1 rfl
   ·exact g4 y hy u hu
theorem Ths.mkObs {B:Nat} {w:World}:∀ {O:List Ob} {L:List Th},(O.map (·.1)).Nodup→(∀ x∈O,w.heap[x.1]?=some (.cells x.2.1 x.2.2 (0,0)))→(∀ x∈O,B≤x.1)→(∀ x∈O,∀ u∈L,¬u.F x.1)→Ths B w L→Ths B w (O.map thOb++L)
 | [],_,_,_,_,_,h=>h
 | x::r,L,h1,h2,h3,h4,h5=>by
  rw [List.map_cons,List.nodup_cons] at h1
  refine ⟨h2 x (by simp),fun y e=>?_,fun u hu y e huy=>?_,Ths.mkObs h1.2 (fun y hy=>h2 y (by simp [hy])) (fun y hy=>h3 y (by simp [hy])) (fun y hy=>h4 y (by simp [hy])) h5⟩
  ·have e':y=x.1:=e
   rw [e'];exact h3 x (by simp)
  ·have e':y=x.1:=e
   subst e'
   rcases List.mem_append.1 hu with hu | hu
   ·obtain ⟨z,hz,rfl⟩:=List.mem_map.1 hu
    have:x.1=z.1:=huy
    exact h1.1 (by rw [this];exact List.mem_map_of_mem hz)
   ·exact h4 x (by simp) u hu huy
theorem Keeps.join {a b:World} {S T:Nat→Prop} (h:Keeps a b S) (hS:∀ x,S x→T x):Keeps a b T:=⟨h.os,h.tape,h.output,h.size,fun k hk hn=>h.block k hk fun s=>hn (hS k s)⟩
set_option maxHeartbeats 1000000 in
theorem St.readNums {W w:World} {L:List Th} {p g:Nat} {rest:List UInt8} {bad:Bool} {O:List Ob} (h:St W w (thRd p g rest bad::(O.map thOb++L))) (hm:rest.length≤140737488351232) (ps:List (Nat × Nat)) (hps:∀ q∈ps,∃ x v,O[q.1]?=some x∧x.2.1[q.2]?=some v) (s k:Nat) (hs:s=w.heap.size) (hk:k=ps.length) (hl:ps.length≤1000) (cur:Array Value) (T:TypeId) (hc:cur=(ps.map fun q=>Value.pointer (adOf O q)).toArray) :
 Calls Tryz.prog 39 #[.pointer (some ⟨p,0,none⟩),.slice (some ⟨s,0,none⟩) k k] (w.alloc (.cells cur T)) fun e w'=>e=.returned (.tuple #[])∧St W w' (thRd p g (rdSt rest bad k).1 (rdSt rest bad k).2::((putObs O ps (rdVal rest bad) k).map thOb++L)):=by
 subst hs hk
 have hlt:∀ q∈ps,q.1<O.length:=fun q hq=>by
  obtain ⟨x,v,hx,-⟩:=hps q hq
  exact (List.getElem?_eq_some_iff.1 hx).1
 have hr:RdAt w p g rest bad:=h.head
 have hp:=hr.lt
 have hW:=h.b.size
 have hg:St W (w.alloc (.cells cur T)) (thRd p g rest bad::(O.map thOb++L)):=h.grow (below_allocO _ _)
 obtain ⟨o1,o2,o3,o4,o5⟩:=Ths.obs hg.t.2.2.2
 obtain ⟨-,p2,-,-,-⟩:=Ths.obs h.t.2.2.2
 have hdis:=hg.t.2.2.1
 have hOp:∀ x∈O,x.1≠p∧(0<rest.length→x.1≠g):=fun x hx=>by
  have hu:thOb x∈O.map thOb++L:=List.mem_append.2 (.inl (List.mem_map.2 ⟨x,hx,rfl⟩))
  exact ⟨fun e=>hdis _ hu p (.inl rfl) e.symm,fun hl e=>hdis _ hu g (.inr ⟨rfl,hl⟩) e.symm⟩
 have hlen:(ps.map (adOf O)).length=ps.length:=by simp
 have hcall:=rdnums_ptrs p g w.heap.size ps.length rest bad (ps.map (adOf O)) (w.alloc (.cells cur T)) hg.head hm (by rw [hlen];exact hl)
  (fun i hi=>by
   rw [hlen] at hi
   rw [(cells_of_obj (heap_new w (.cells cur T))).1,hc]
   simp [hi])
  (by simp) (by omega)
  (fun a ha=>by
   obtain ⟨q,hq,e⟩:=List.mem_map.1 ha
   simp only [adOf,Option.some.injEq] at e
   obtain ⟨x,v,hx,hv⟩:=hps q hq
   have hxm:=List.mem_of_getElem? hx
   have hbx:blk O q.1=x.1:=by simp [blk,List.getD,hx]
   have hab:a=⟨x.1,q.2,none⟩:=by rw [←e,hbx]
   subst hab
   have hcx:=cells_of_obj (o2 x hxm)
   refine ⟨(hOp x hxm).1,?_,(hOp x hxm).2,⟨v,by rw [hcx.1];exact hv⟩,hcx.2 _⟩
   have:=lt_of_block (p2 x hxm)
   simp only;omega)
 rw [hlen] at hcall
 refine hcall.mono ?_
 rintro e w' ⟨rfl,hr2,hk2⟩
 refine ⟨rfl,?_⟩
 have hsp:=setPs_keeps (w.alloc (.cells cur T)) (ps.map (adOf O)) (rdVal rest bad) ps.length
 have hfst:=putObs_fst O ps (rdVal rest bad) ps.length
 have hmemO:∀ x∈putObs O ps (rdVal rest bad) ps.length,∃ y∈O,y.1=x.1:=fun x hx=>by
  have:x.1∈(putObs O ps (rdVal rest bad) ps.length).map (·.1):=List.mem_map_of_mem hx
  rw [hfst] at this
  obtain ⟨y,hy,e⟩:=List.mem_map.1 this
  exact ⟨y,hy,e⟩
 have hK:Keeps (w.alloc (.cells cur T)) w' (fun x=>x=p∨∃ y∈O,y.1=x):=by
  refine hsp.trans hk2 (fun x ⟨a,ha,e⟩=>?_) (fun x _ e=>.inl e)
  obtain ⟨q,hq,e2⟩:=List.mem_map.1 ha
  simp only [adOf,Option.some.injEq] at e2
  obtain ⟨y,hy,e3⟩:=blk_mem (hlt q hq)
  exact .inr ⟨y,hy,by rw [←e,←e2];exact e3⟩
 have hL5:Ths W.heap.size w' L:=o5.keep hK (fun t ht x hx hS=>by
  rcases hS with rfl | ⟨y,hy,rfl⟩
  ·exact hdis t (by simp [ht]) x (.inl rfl) hx
  ·exact o4 y hy t ht hx)
 refine ⟨hg.b.trans (hK.below (fun x hx=>?_) hg.b.size),hr2,fun x hx=>?_,fun u hu x hx hux=>?_,Ths.mkObs (by rw [hfst];exact o1) (fun x hx=>?_) (fun x hx=>?_) (fun x hx u hu=>?_) hL5⟩
 ·rcases hx with rfl | ⟨y,hy,rfl⟩
  ·exact hg.t.2.1 x (.inl rfl)
  ·exact o3 y hy
 ·rcases hx with rfl | ⟨rfl,hx⟩
  ·exact hg.t.2.1 x (.inl rfl)
  ·exact hg.t.2.1 x (.inr ⟨rfl,Nat.lt_of_lt_of_le hx (rdSt_le rest bad _)⟩)
 ·have hx2:(thRd p g rest bad).F x:=by
   rcases hx with rfl | ⟨rfl,hx⟩
   ·exact .inl rfl
   ·exact .inr ⟨rfl,Nat.lt_of_lt_of_le hx (rdSt_le rest bad _)⟩
  rcases List.mem_append.1 hu with hu | hu
  ·obtain ⟨z,hz,rfl⟩:=List.mem_map.1 hu
   obtain ⟨y,hy,e⟩:=hmemO z hz
   exact hdis (thOb y) (List.mem_append.2 (.inl (List.mem_map.2 ⟨y,hy,rfl⟩))) x hx2 (by
    have:x=z.1:=hux
    show x=y.1
    rw [e];exact this)
  ·exact hdis u (by simp [hu]) x hx2 hux
 ·have h1:=putObs_heap o1 o2 ps hlt (rdVal rest bad) ps.length x hx
  obtain ⟨y,hy,e⟩:=hmemO x hx
  rw [hk2.block x.1 (lt_of_block h1) (by rw [←e];exact (hOp y hy).1)]
  exact h1
 ·obtain ⟨y,hy,e⟩:=hmemO x hx
  rw [←e];exact o3 y hy
 ·obtain ⟨y,hy,e⟩:=hmemO x hx
  rw [←e];exact o4 y hy u hu
theorem St.readNum {W w:World} {L:List Th} {p g:Nat} {rest:List UInt8} {bad:Bool} (h:St W w (thRd p g rest bad::L)) (hm:rest.length≤140737488351232) :
 Calls Tryz.prog 82 #[.pointer (some ⟨p,0,none⟩)] w fun e w'=>e=.returned (.int .i64 ((numT rest bad).1:Nat))∧St W w' (thRd p g (numT rest bad).2.1 (numT rest bad).2.2::L):=by
 refine (rdnum_t p g rest bad w h.head hm).mono ?_
 rintro e w' ⟨rfl,hr,hk⟩
 exact ⟨rfl,h.read hr hk (numT_le _ _).1⟩
theorem St.readBytes {W w:World} {L:List Th} {p g:Nat} {rest:List UInt8} {bad:Bool} (h:St W w (thRd p g rest bad::L)) (hm:rest.length≤140737488351232) :
 Calls Tryz.prog 40 #[.pointer (some ⟨p,0,none⟩)] w fun e w'=>∃ ao cap,e=.returned (.slice ao (tookOf rest bad).1.length cap)∧OwnB w' w.heap.size ao cap (tookOf rest bad).1∧St W w' (thRd p g (tookOf rest bad).2.1 (tookOf rest bad).2.2::L):=by
 refine (rdbytes_any p g rest bad w h.head hm).mono ?_
 rintro e w' ⟨x,r',b',ao,cap,ht,rfl,ho,hr,hk⟩
 rw [←ht]
 exact ⟨ao,cap,rfl,ho,h.read hr hk (tookOf_le ht).2⟩
end Go.Proofs.YthlcmjgdilebeaaGreat
namespace Go.Proofs.YthlcmjgdilebeaaGreat.O
open Go.RowKit
set_option maxRecDepth 20000
structure ZIs (r:List UInt8) (b:Bool) (zid:Nat) (fr to:List UInt8) (owner epoch pend tt:Nat) (key:List UInt8) (nw:Nat) (r1:List UInt8) (b1:Bool) (r2:List UInt8) (b2:Bool) (r3:List UInt8) (b3:Bool) (r4:List UInt8) (b4:Bool) (r5:List UInt8) (b5:Bool) (r6:List UInt8) (b6:Bool):Prop where
 e1:numT r b=(zid,r1,b1)
 e2:tookOf r1 b1=(fr,r2,b2)
 e3:tookOf r2 b2=(to,r3,b3)
 v0:owner=rdVal r3 b3 0
 v1:epoch=rdVal r3 b3 1
 v2:pend=rdVal r3 b3 2
 v3:tt=rdVal r3 b3 3
 e4:rdSt r3 b3 4=(r4,b4)
 e5:tookOf r4 b4=(key,r5,b5)
 e6:numT r5 b5=(nw,r6,b6)
 l1:r1.length≤r.length
 l2:r2.length≤r.length
 l3:r3.length≤r.length
 l4:r4.length≤r.length
 l5:r5.length≤r.length
 l6:r6.length≤r.length
 k1:fr.length≤r.length
 k2:to.length≤r.length
 k3:key.length≤r.length
 nb:nw≤4611686018427387904
 rd:rdZ (r,b)=⟨zid,txt fr,txt to,owner,epoch,pend,tt,txt key,nw⟩
 st:s6 (r,b)=(r6,b6)
theorem eta3 {α β γ:Type} (t:α × β × γ):t=(t.1,t.2.1,t.2.2):=rfl
theorem took_len {r x r':List UInt8} {b b':Bool} (h:tookOf r b=(x,r',b')):x.length≤r.length∧r'.length≤r.length:=tookOf_le h.symm
theorem zis (r:List UInt8) (b:Bool):∃ zid fr to owner epoch pend tt key nw r1 b1 r2 b2 r3 b3 r4 b4 r5 b5 r6 b6,ZIs r b zid fr to owner epoch pend tt key nw r1 b1 r2 b2 r3 b3 r4 b4 r5 b5 r6 b6:=by
 obtain ⟨zid,r1,b1,e1⟩:∃ n x y,numT r b=(n,x,y):=⟨_,_,_,eta3 _⟩
 obtain ⟨fr,r2,b2,e2⟩:∃ n x y,tookOf r1 b1=(n,x,y):=⟨_,_,_,eta3 _⟩
 obtain ⟨to,r3,b3,e3⟩:∃ n x y,tookOf r2 b2=(n,x,y):=⟨_,_,_,eta3 _⟩
 obtain ⟨r4,b4,e4⟩:∃ x y,rdSt r3 b3 4=(x,y):=⟨_,_,rfl⟩
 obtain ⟨key,r5,b5,e5⟩:∃ n x y,tookOf r4 b4=(n,x,y):=⟨_,_,_,eta3 _⟩
 obtain ⟨nw,r6,b6,e6⟩:∃ n x y,numT r5 b5=(n,x,y):=⟨_,_,_,eta3 _⟩
 have h1:rdVal r b 0=zid:=by unfold rdVal;rw [rz];dsimp only;rw [e1]
 have h1s:rdSt r b 1=(r1,b1):=by
  have:=rd_step r b 0 1 rfl
  rw [rz] at this
  dsimp only at this
  rw [e1] at this
  simp only [Prod.mk.injEq] at this
  rw [←Prod.eta (rdSt r b 1),←this.2.1,←this.2.2]
 have h6:rdVal r5 b5 0=nw:=by unfold rdVal;rw [rz];dsimp only;rw [e6]
 have h6s:rdSt r5 b5 1=(r6,b6):=by
  have:=rd_step r5 b5 0 1 rfl
  rw [rz] at this
  dsimp only at this
  rw [e6] at this
  simp only [Prod.mk.injEq] at this
  rw [←Prod.eta (rdSt r5 b5 1),←this.2.1,←this.2.2]
 have a2:t2 (r,b)=(fr,r2,b2):=by unfold t2 s1;dsimp only;rw [h1s];exact e2
 have a3:t3 (r,b)=(to,r3,b3):=by unfold t3;rw [a2];exact e3
 have a4:s4 (r,b)=(r4,b4):=by unfold s4;rw [a3];exact e4
 have a5:t5 (r,b)=(key,r5,b5):=by unfold t5;rw [a4];exact e5
 have a6:s6 (r,b)=(r6,b6):=by unfold s6;rw [a5];exact h6s
 have l1:r1.length≤r.length:=by have:=(numT_le r b).1;rw [e1] at this;exact this
 obtain ⟨k2,l2⟩:=took_len e2
 obtain ⟨k3,l3⟩:=took_len e3
 have l4:r4.length≤r3.length:=by have:=rdSt_le r3 b3 4;rw [e4] at this;exact this
 obtain ⟨k5,l5⟩:=took_len e5
 have l6:r6.length≤r5.length:=by have:=(numT_le r5 b5).1;rw [e6] at this;exact this
 have nb:nw≤4611686018427387904:=by rw [←h6];exact rdVal_le _ _ _
 have hrd:rdZ (r,b)=⟨zid,txt fr,txt to,rdVal r3 b3 0,rdVal r3 b3 1,rdVal r3 b3 2,rdVal r3 b3 3,txt key,nw⟩:=by
  unfold rdZ
  rw [a2,a3,a5]
  dsimp only
  rw [h1,h6]
 exact ⟨zid,fr,to,rdVal r3 b3 0,rdVal r3 b3 1,rdVal r3 b3 2,rdVal r3 b3 3,key,nw,r1,b1,r2,b2,r3,b3,r4,b4,r5,b5,r6,b6,⟨e1,e2,e3,rfl,rfl,rfl,rfl,e4,e5,e6,l1,by omega,by omega,by omega,by omega,by omega,by omega,by omega,by omega,nb,hrd,a6⟩⟩
theorem txt_size (l:List UInt8):(txt l).size=l.length:=by simp [txt,ByteArray.size]
theorem encS_pos (s:ByteArray):1≤(encS s).length:=by
 have:=(encN_length s.data.toList.length).2
 simp only [encS,encRow,List.length_append]
 omega
theorem encZ_pos (z:Zn):9≤(encZ z).length:=by
 have h1:=(encN_length (clampN z.id)).2
 have h2:=(encN_length (clampN z.owner)).2
 have h3:=(encN_length (clampN z.epoch)).2
 have h4:=(encN_length (clampN z.pend)).2
 have h5:=(encN_length (clampN z.tt)).2
 have h6:=(encN_length (clampN z.nw)).2
 have h7:=encS_pos z.fr
 have h8:=encS_pos z.to
 have h9:=encS_pos z.key
 unfold encZ
 simp only [encs_cons,encs_nil,List.append_nil,List.length_append]
 omega
theorem s6_less {s:Rs} (h:(s6 s).2=false):(s6 s).1.length+9≤s.1.length:=by
 obtain ⟨-,h2⟩:=rdZ_back h
 have h1:=encZ_pos (rdZ s)
 have:=congrArg List.length h2
 rw [List.length_append] at this
 omega
theorem news_ad (w:World) (n:Nat) (hn:n=w.heap.size) (cur:Array Value) (t:TypeId):∀ ad,(some ⟨n,0,none⟩:Option Addr)=some ad→∀ (j:Nat) u,cur.toList[j]?=some u→(w.alloc (.cells cur t)).cell? (ad.add j)=some u:=by
 subst hn
 intro ad e j u hu
 obtain rfl:=Option.some.inj e
 rw [add_none,Nat.zero_add,(cells_of_obj (heap_new w _)).1]
 simpa using hu
def zz9:Array Value:=#[.int .i64 0,.string ⟨#[]⟩,.string ⟨#[]⟩,.int .i64 0,.int .i64 0,.int .i64 0,.int .i64 0,.string ⟨#[]⟩,.int .i64 0]
theorem zoneInfoO:(Tryz.prog.info? 87).map (fun i=>(i.zero,i.size,i.bytes))=some (some (.agg zz9),9,96):=by kernel_rfl
structure RdI (l:List UInt8) (j:Nat) (L:List Zn) (r:List UInt8) (b:Bool):Prop where
 all:rdZs (rdVal l false 2) (rdSt l false 3)=(L++(rdZs j (r,b)).1,(rdZs j (r,b)).2)
 good:b=false→9 * L.length+r.length≤l.length
 len:9 * L.length≤l.length+9
 left:r.length≤l.length
 sz:∀ z∈L,z.fr.size≤l.length∧z.to.size≤l.length∧z.key.size≤l.length∧0≤z.nw∧z.nw≤4611686018427387904
theorem rdZs_succ (k:Nat) (s:Rs):rdZs (k+1) s=if s.2=true then ([],s) else (rdZ s::(rdZs k (s6 s)).1,(rdZs k (s6 s)).2):=rfl
theorem RdI.start (l:List UInt8):RdI l (rdVal l false 2) [] (rdSt l false 3).1 (rdSt l false 3).2 :=
 ⟨rfl,fun _=>by simpa using rdSt_le l false 3,by simp,rdSt_le l false 3,fun _ h=>by simp at h⟩
theorem RdI.next {l:List UInt8} {j:Nat} {L:List Zn} {r:List UInt8} (h:RdI l (j+1) L r false) {zid:Nat} {fr to:List UInt8} {owner epoch pend tt:Nat} {key:List UInt8} {nw:Nat} {r1:List UInt8} {b1:Bool} {r2:List UInt8} {b2:Bool} {r3:List UInt8} {b3:Bool} {r4:List UInt8} {b4:Bool} {r5:List UInt8} {b5:Bool} {r6:List UInt8} {b6:Bool}
 (z:ZIs r false zid fr to owner epoch pend tt key nw r1 b1 r2 b2 r3 b3 r4 b4 r5 b5 r6 b6):RdI l j (L++[⟨zid,txt fr,txt to,owner,epoch,pend,tt,txt key,nw⟩]) r6 b6:=by
 have hg:=h.good rfl
 refine ⟨?_,fun hb=>?_,by simp;omega,Nat.le_trans z.l6 h.left,fun y hy=>?_⟩
 ·rw [h.all]
  have:rdZs (j+1) (r,false)=(rdZ (r,false)::(rdZs j (s6 (r,false))).1,(rdZs j (s6 (r,false))).2):=by
   rw [rdZs_succ,if_neg (by simp)]
  rw [this,z.rd,z.st]
  simp
 ·have h6:(s6 (r,false)).2=false:=by rw [z.st];exact hb
  have:=s6_less h6
  rw [z.st] at this
  simp only [List.length_append,List.length_cons,List.length_nil] at this ⊢
  omega
 ·rcases List.mem_append.1 hy with hy | hy
  ·exact h.sz y hy
  ·obtain rfl:=List.mem_singleton.1 hy
   simp only [txt_size]
   have:=z.k1;have:=z.k2;have:=z.k3;have:=z.nb;have:=h.left
   omega
theorem RdI.done {l:List UInt8} {j:Nat} {L:List Zn} {r:List UInt8} {b:Bool} (h:RdI l j L r b) (he:j=0∨b=true):decM l=(⟨rdVal l false 0,rdVal l false 1,L⟩,r,b):=by
 have e:rdZs j (r,b)=([],r,b):=by
  rcases he with rfl | rfl
  ·rfl
  ·cases j with
   | zero=>rfl
   | succ j=>rw [rdZs_succ,if_pos rfl]
 unfold decM
 rw [h.all,e]
 simp
end Go.Proofs.YthlcmjgdilebeaaGreat.O
namespace Go.Proofs.YthlcmjgdilebeaaGreat.O
def cntN (l:List Zn) (n:Int):Nat:=(l.filter fun z=>z.nw==n).length
theorem cnt_append (a b:List Zn) (n:Int):cntN (a++b) n=cntN a n+cntN b n:=by simp [cntN]
theorem cnt_pos {l:List Zn} {n:Int} {z:Zn} (h:z∈l) (hz:z.nw=n):0<cntN l n:=by
 unfold cntN
 exact List.length_pos_iff_exists_mem.2 ⟨z,List.mem_filter.2 ⟨h,by simpa using hz⟩⟩
theorem cnt_zero {l:List Zn} {n:Int} (h:∀ z∈l,z.nw≠n):cntN l n=0:=by
 unfold cntN
 rw [List.length_eq_zero_iff,List.filter_eq_nil_iff]
 intro z hz
 simpa using h z hz
theorem cnt_lt {l:List Zn} {n:Int} {i k:Nat} (hi:i<l.length) (hk:k<l.length) (hik:i<k) (h1:l[i].nw=n) (h2:l[k].nw=n):2≤cntN l n:=by
 have e:=cnt_append (l.take k) (l.drop k) n
 rw [List.take_append_drop] at e
 have a:=cnt_pos (l:=l.take k) (n:=n) (z:=l[i]) (List.mem_take_iff_getElem.2 ⟨i,by omega,rfl⟩) h1
 have b:=cnt_pos (l:=l.drop k) (n:=n) (z:=l[k]) (by rw [List.drop_eq_getElem_cons hk];exact List.mem_cons_self) h2
 omega
theorem cnt_uniq {l:List Zn} {n:Int} {i k:Nat} (h:cntN l n=1) (hi:i<l.length) (hk:k<l.length) (h1:l[i].nw=n) (h2:l[k].nw=n):i=k:=by
 rcases Nat.lt_trichotomy i k with c | c | c
 ·have:=cnt_lt hi hk c h1 h2;omega
 ·exact c
 ·have:=cnt_lt hk hi c h2 h1;omega
theorem cnt_one {l:List Zn} {n:Int} {i:Nat} (hi:i<l.length) (h1:l[i].nw=n) (h:∀ k (hk:k<l.length),k≠i→l[k].nw≠n):cntN l n=1:=by
 have e:=cnt_append (l.take i) (l.drop i) n
 rw [List.take_append_drop,List.drop_eq_getElem_cons hi] at e
 have a:cntN (l.take i) n=0:=cnt_zero fun z hz=>by
  obtain ⟨j,hj,rfl⟩:=List.mem_take_iff_getElem.1 hz
  exact h j (by omega) (by omega)
 have b:cntN (l.drop (i+1)) n=0:=cnt_zero fun z hz=>by
  obtain ⟨j,hj,rfl⟩:=List.mem_iff_getElem.1 hz
  rw [List.getElem_drop]
  exact h _ _ (by omega)
 have c:cntN (l[i]::l.drop (i+1)) n=1+cntN (l.drop (i+1)) n:=by
  unfold cntN
  rw [List.filter_cons_of_pos (by simpa using h1)]
  simp;omega
 omega
def fcnt (l:List Zn) (x:Int):Int:=if x=0 then 0 else (cntN l x:Nat)
theorem fcnt_one {l:List Zn} {n:Int} (h:fcnt l n=1):cntN l n=1:=by
 unfold fcnt at h
 split at h<;>omega
def pSplit (m:Mp) (z:Zn):Bool:=cutOk z.fr z.to z.key&&(decide (z.tt=0∧1≤z.nw∧z.nw<m.next)&&(decide (fcnt m.zs z.nw=1)&&(findZ m.zs z.nw).isNone))
def pKind (m:Mp) (i:Nat) (z:Zn):Bool:=if z.pend=0 then decide (z.tt=0∧z.key.toList=[]∧z.nw=0) else if z.pend=3 then decide (1≤z.tt∧z.tt≤1048576∧z.tt≠z.owner∧z.key.toList=[]∧z.nw=0) else if z.pend=1 then pSplit m z else if z.pend=2 then (mergesB m.zs i z&&decide (fcnt m.zs z.nw=1)) else false
def pZone (m:Mp) (i:Nat) (z:Zn):Bool:=headB m i z&&pKind m i z
def pHead (m:Mp):Bool:=decide (1≤m.ver∧m.ver≤1099511627776∧1≤m.next∧m.next≤1099511627776∧1≤m.zs.length∧m.zs.length≤16)
def pAll (m:Mp):Bool:=(List.range m.zs.length).all fun i=>pZone m i (m.zs.getD i zq)
def pMay (m:Mp):Bool:=pHead m&&(sAll (m.zs.map spz)&&pAll m)
theorem getD_at {l:List Zn} {i:Nat} (h:i<l.length):l.getD i zq=l[i]:=by simp [h]
theorem pKind_of {m:Mp} {i:Nat} (hi:i<m.zs.length) (h:pKind m i m.zs[i]=true):kindB m i m.zs[i]=true:=by
 unfold pKind at h
 unfold kindB
 split at h
 ·rename_i p;rw [if_pos p];exact h
 ·rename_i p0
  rw [if_neg p0]
  split at h
  ·rename_i p;rw [if_pos p];exact h
  ·rename_i p3
   rw [if_neg p3]
   split at h
   ·rename_i p1
    rw [if_pos p1]
    unfold pSplit at h
    simp only [Bool.and_eq_true,decide_eq_true_eq] at h
    obtain ⟨h1,h2,h3,h4⟩:=h
    unfold splitsB
    rw [h1,h4,decide_eq_true h2,clash_end (fun k hk hki hp hn=>hki (cnt_uniq (fcnt_one h3) hk hi hn rfl))]
    rfl
   ·rename_i p1
    rw [if_neg p1]
    split at h
    ·rename_i p2
     rw [if_pos p2]
     exact (Bool.and_eq_true _ _▸h:_∧_).1
    ·cases h
theorem zone_at {m:Mp} (h:(List.range m.zs.length).all (fun i=>zoneB m i (m.zs.getD i zq))=true) {i:Nat} (hi:i<m.zs.length):headB m i m.zs[i]=true∧kindB m i m.zs[i]=true:=by
 have:=List.all_eq_true.1 h i (by simpa using hi)
 rw [getD_at hi] at this
 unfold zoneB at this
 exact Bool.and_eq_true _ _▸this
theorem head_find {m:Mp} {i:Nat} {z:Zn} (h:headB m i z=true):1≤z.id∧findZ m.zs z.id=some i:=by
 unfold headB at h
 rw [decide_eq_true_eq] at h
 exact ⟨h.1,h.2.2.1⟩
theorem nw_of {m:Mp} (h:(List.range m.zs.length).all (fun i=>zoneB m i (m.zs.getD i zq))=true) {i:Nat} (hi:i<m.zs.length) (hp:m.zs[i].pend=1∨m.zs[i].pend=2):m.zs[i].nw≠0:=by
 obtain ⟨a1,a2⟩:=zone_at h hi
 unfold kindB at a2
 rcases hp with hp | hp
 ·rw [if_neg (by omega),if_neg (by omega),if_pos hp] at a2
  unfold splitsB at a2
  simp only [Bool.and_eq_true,decide_eq_true_eq] at a2
  omega
 ·rw [if_neg (by omega),if_neg (by omega),if_neg (by omega),if_pos hp] at a2
  unfold mergesB at a2
  cases hf:findZ m.zs m.zs[i].nw with
  | none=>rw [hf] at a2;cases a2
  | some j =>
   obtain ⟨y,hy,hyid,-⟩:=find_some hf
   obtain ⟨hjl,hje⟩:=List.getElem?_eq_some_iff.1 hy
   have:=(head_find (zone_at h hjl).1).1
   rw [hje,hyid] at this
   omega
theorem cnt_of {m:Mp} (h:(List.range m.zs.length).all (fun i=>zoneB m i (m.zs.getD i zq))=true) {i:Nat} (hi:i<m.zs.length) (hp:m.zs[i].pend=1∨m.zs[i].pend=2):cntN m.zs m.zs[i].nw=1:=by
 obtain ⟨a1,a2⟩:=zone_at h hi
 refine cnt_one hi rfl fun k hk hki hn=>?_
 obtain ⟨b1,b2⟩:=zone_at h hk
 unfold kindB at a2 b2
 rcases hp with hp | hp
 ·rw [if_neg (by omega),if_neg (by omega),if_pos hp] at a2
  unfold splitsB at a2
  simp only [Bool.and_eq_true,decide_eq_true_eq,Bool.not_eq_true'] at a2
  obtain ⟨-,⟨-,h2,-⟩,h3,h4⟩:=a2
  split at b2
  ·rw [decide_eq_true_eq] at b2;omega
  ·split at b2
   ·rw [decide_eq_true_eq] at b2;omega
   ·split at b2
    ·rename_i q
     rw [clash_hit hk hki q hn] at h4
     cases h4
    ·split at b2
     ·unfold mergesB at b2
      rw [hn] at b2
      cases hf:findZ m.zs m.zs[i].nw with
      | none=>rw [hf] at b2;cases b2
      | some j=>rw [hf] at h3;cases h3
     ·cases b2
 ·rw [if_neg (by omega),if_neg (by omega),if_neg (by omega),if_pos hp] at a2
  unfold mergesB at a2
  cases hf:findZ m.zs m.zs[i].nw with
  | none=>rw [hf] at a2;cases a2
  | some j =>
   rw [hf] at a2
   simp only [Bool.and_eq_true,decide_eq_true_eq] at a2
   obtain ⟨-,-,h6,-⟩:=a2
   obtain ⟨y,hy,hyid,-⟩:=find_some hf
   obtain ⟨hjl,hje⟩:=List.getElem?_eq_some_iff.1 hy
   obtain ⟨c1,-⟩:=zone_at h hjl
   have hn0:1≤m.zs[i].nw:=by
    have:=(head_find c1).1
    rw [hje,hyid] at this
    exact this
   split at b2
   ·rw [decide_eq_true_eq] at b2;omega
   ·split at b2
    ·rw [decide_eq_true_eq] at b2;omega
    ·split at b2
     ·unfold splitsB at b2
      rw [hn,hf] at b2
      simp at b2
     ·split at b2
      ·unfold mergesB at b2
       rw [hn,hf] at b2
       simp only [Bool.and_eq_true,decide_eq_true_eq] at b2
       have e:m.zs[i].id=m.zs[k].id:=h6.symm.trans b2.2.2.1
       have f1:=(head_find a1).2
       rw [e,(head_find b1).2] at f1
       exact hki (Option.some.inj f1)
      ·cases b2
theorem pKind_mk {m:Mp} (h:(List.range m.zs.length).all (fun i=>zoneB m i (m.zs.getD i zq))=true) {i:Nat} (hi:i<m.zs.length):pKind m i m.zs[i]=true:=by
 obtain ⟨a1,a2⟩:=zone_at h hi
 have hc:m.zs[i].pend=1∨m.zs[i].pend=2→fcnt m.zs m.zs[i].nw=1:=fun hp=>by
  have h1:=cnt_of h hi hp
  have h2:=nw_of h hi hp
  unfold fcnt
  rw [if_neg h2]
  omega
 unfold pKind
 unfold kindB at a2
 split
 ·rename_i p;rw [if_pos p] at a2;exact a2
 ·rename_i p0
  rw [if_neg p0] at a2
  split
  ·rename_i p;rw [if_pos p] at a2;exact a2
  ·rename_i p3
   rw [if_neg p3] at a2
   split
   ·rename_i p1
    rw [if_pos p1] at a2
    unfold splitsB at a2
    simp only [Bool.and_eq_true,decide_eq_true_eq] at a2
    unfold pSplit
    rw [a2.1,decide_eq_true a2.2.1,a2.2.2.1,decide_eq_true (hc (.inl p1))]
    rfl
   ·rename_i p1
    rw [if_neg p1] at a2
    split
    ·rename_i p2
     rw [if_pos p2] at a2
     rw [a2,decide_eq_true (hc (.inr p2))]
     rfl
    ·rename_i p2
     rw [if_neg p2] at a2
     exact a2
theorem pMay_eq (m:Mp):pMay m=mayM m:=by
 rw [Bool.eq_iff_iff]
 unfold pMay pHead pAll mayM
 simp only [Bool.and_eq_true,decide_eq_true_eq]
 constructor
 ·rintro ⟨⟨h1,h2,h3,h4,-,h6⟩,h7,h8⟩
  refine ⟨⟨h1,h2,h3,h4,h6⟩,?_,by rw [←all_same];exact h7⟩
  rw [List.all_eq_true] at h8 ⊢
  intro i hi
  have hi2:i<m.zs.length:=by simpa using hi
  have:=h8 i hi
  rw [getD_at hi2] at this ⊢
  unfold pZone at this
  unfold zoneB
  rw [Bool.and_eq_true] at this ⊢
  exact ⟨this.1,pKind_of hi2 this.2⟩
 ·rintro ⟨⟨h1,h2,h3,h4,h5⟩,h6,h7⟩
  refine ⟨⟨h1,h2,h3,h4,?_,h5⟩,by rw [all_same];exact h7,?_⟩
  ·rcases Nat.eq_zero_or_pos m.zs.length with h0 | h0
   ·rw [List.length_eq_zero_iff.1 h0] at h7;cases h7
   ·exact h0
  ·have h6':=h6
   rw [List.all_eq_true]
   intro i hi
   have hi2:i<m.zs.length:=by simpa using hi
   rw [getD_at hi2]
   unfold pZone
   rw [Bool.and_eq_true]
   exact ⟨(zone_at h6 hi2).1,pKind_mk h6' hi2⟩
end Go.Proofs.YthlcmjgdilebeaaGreat.O
namespace Go.Proofs.YthlcmjgdilebeaaGreat.O
open Go.RowKit Go.Maps
set_option maxRecDepth 20000
theorem keyLaw:Keyed Tryz.prog 3:=int_keyed Tryz.underlying3
theorem zeroInt (w:World):(zeroValue 3).run Tryz.prog w=.ok (.int .i64 0) w:=by kernel_rfl
def CntAt (w:World) (b k:Nat) (f:Int→Int):Prop:=∃ n D,w.ownsMap (H:=Unit) Tryz.prog 3 (plainElem Tryz.prog 3) b n D∧n≤k∧IsMap D∧∀ x,(Lit.int .i64 x).wf=true→D.atKey (.int .i64 x) (.lit (.int .i64 0))=.lit (.int .i64 (f x))
theorem CntAt.look {w:World} {b k:Nat} {f:Int→Int} (h:CntAt w b k f) (x:Int) (hx:(Lit.int .i64 x).wf=true):(Instr.lookup 155 (.map (some b)) (.int .i64 x) false).run Tryz.prog w=.ok (.int .i64 (f x)) w:=by
 obtain ⟨n,D,ho,-,-,hat⟩:=h
 obtain ⟨c,hrun,hc,-⟩:=ho.lookup_int keyLaw Tryz.underlying155 Tryz.underlying3 (zeroInt _) (keyOf_int_mk Tryz.underlying3 hx)
 rw [hat x hx] at hc
 simp only [DataW.lit.injEq,Lit.int.injEq,true_and] at hc
 rw [hrun,hc]
theorem CntAt.lt {w:World} {b k:Nat} {f:Int→Int} (h:CntAt w b k f):b<w.heap.size:=by
 obtain ⟨n,D,ho,-⟩:=h
 exact ho.lt
theorem CntAt.grow {w w':World} {b k:Nat} {f:Int→Int} (h:CntAt w b k f) (hb:Below w.heap.size w w'):CntAt w' b k f:=by
 obtain ⟨n,D,⟨es,clock,h1,h2⟩,r⟩:=h
 exact ⟨n,D,⟨es,clock,(hb.block b (lt_of_block h1)).trans h1,h2⟩,r⟩
theorem CntAt.new (w:World):CntAt (w.alloc (.map #[] 0)) w.heap.size 0 (fun _=>0) :=
 ⟨0,.map [],World.ownsMap_made _ _ _ _,Nat.le_refl _,⟨_,rfl⟩,fun _ _=>rfl⟩
theorem CntAt.mono {w:World} {b k k':Nat} {f:Int→Int} (h:CntAt w b k f) (hk:k≤k'):CntAt w b k' f:=by
 obtain ⟨n,D,h1,h2,r⟩:=h
 exact ⟨n,D,h1,Nat.le_trans h2 hk,r⟩
theorem CntAt.congr {w:World} {b k:Nat} {f g:Int→Int} (h:CntAt w b k f) (hfg:∀ x,f x=g x):CntAt w b k g:=by
 obtain ⟨n,D,h1,h2,h3,h4⟩:=h
 exact ⟨n,D,h1,h2,h3,fun x hx=>by rw [←hfg];exact h4 x hx⟩
def thCnt (b k:Nat) (f:Int→Int):Th where
 T w:=CntAt w b k f
 F x:=x=b
 stay h k hS:=by
  obtain ⟨n,D,⟨es,clock,h1,h2⟩,r⟩:=h
  exact ⟨n,D,⟨es,clock,(k.block b (lt_of_block h1) (hS b rfl)).trans h1,h2⟩,r⟩
 lt h e:=e▸h.lt
theorem CntAt.put {w:World} {b k:Nat} {f:Int→Int} (h:CntAt w b k f) (hk:k≤1000) (x v:Int) (hx:(Lit.int .i64 x).wf=true) (hv:(Lit.int .i64 v).wf=true) :
 ∃ w',(Instr.mapUpdate 155 (.map (some b)) (.int .i64 x) (.int .i64 v)).run Tryz.prog w=.ok () w'∧CntAt w' b (k+1) (fun y=>if y=x then v else f y)∧Keeps w w' (fun z=>z=b):=by
 obtain ⟨n,D,ho,hn,hD,hat⟩:=h
 obtain ⟨w',hrun,r1,r2⟩:=ho.update keyLaw Tryz.underlying155 (by unfold maxLen;omega) (keyOf_int_mk Tryz.underlying3 hx) (plainElem_int Tryz.underlying3 hv)
 refine ⟨w',hrun,⟨n+1,_,r1,by omega,hD.put _ _,fun y hy=>?_⟩,(Keeps.grown r2).weak (fun i _ e=>by cases e;rfl)⟩
 by_cases e:y=x
 ·subst e
  simp only [if_true]
  rw [atKey_put_same hD (show WideAt.IsKeyLit (.int .i64 y) from trivial)]
 ·simp only [e,if_false]
  rw [atKey_put_other (fun h=>e (by simpa using h))]
  exact hat y hy
end Go.Proofs.YthlcmjgdilebeaaGreat.O