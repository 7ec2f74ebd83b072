/- Texts put together: RdSt. -/
import Derived.Test.YtogamdaomdoapaaZa07
import Derived.Test.YtogamdaomdoapaaZa14
namespace Go.Proofs.Ytogamdaomdoapaa
open Go.RowKit
set_option maxRecDepth 20000
theorem set_objF {w:World} {b o:Nat} {cur:Array Value} {t:TypeId} {fr:Nat × Nat} {v:Value} (h:w.heap[b]?=some (.cells cur t fr)):(w.setCell ⟨b,o,none⟩ v).heap[b]?=some (.cells (cur.setIfInBounds o v) t fr):=by
 simp [World.setCell,Array.getElem?_modify,h]
theorem St.setObj {W w:World} {L:List Th} {b:Nat} {cur:Array Value} {t:TypeId} (h:St W w (thObj b (.cells cur t (0,0))::L)) (o:Nat) (v:Value):St W (w.setCell ⟨b,o,none⟩ v) (thObj b (.cells (cur.setIfInBounds o v) t (0,0))::L) :=
 h.step (Keeps.set w ⟨b,o,none⟩ v) _ (set_objF h.head) (fun _ hx=>.inl hx)
abbrev Ob:=Nat × Array Value × TypeId
def thOb (x:Ob):Th:=thObj x.1 (.cells x.2.1 x.2.2 (0,0))
def putOb:List Ob→Nat→Nat→Value→List Ob
 | [],_,_,_=>[]
 | x::r,0,o,v=>(x.1,x.2.1.setIfInBounds o v,x.2.2)::r
 | x::r,i+1,o,v=>x::putOb r i o v
def putObs (O:List Ob) (ps:List (Nat × Nat)) (val:Nat→Nat):Nat→List Ob
 | 0=>O
 | k+1=>match ps[k]? with
  | some q=>putOb (putObs O ps val k) q.1 q.2 (.int .i64 (val k:Nat))
  | none=>putObs O ps val k
def blk (O:List Ob) (i:Nat):Nat:=(O.map (·.1)).getD i 0
def adOf (O:List Ob) (q:Nat × Nat):Option Addr:=some ⟨blk O q.1,q.2,none⟩
theorem putOb_fst:∀ (O:List Ob) (i o:Nat) (v:Value),(putOb O i o v).map (·.1)=O.map (·.1)
 | [],_,_,_=>rfl
 | _::_,0,_,_=>rfl
 | x::r,i+1,o,v=>by simp only [putOb,List.map_cons,putOb_fst r i o v]
theorem putObs_fst (O:List Ob) (ps:List (Nat × Nat)) (val:Nat→Nat) (k:Nat):(putObs O ps val k).map (·.1)=O.map (·.1):=by
 induction k with
 | zero=>rfl
 | succ k ih =>
  simp only [putObs]
  split
  ·rw [putOb_fst,ih]
  ·exact ih
theorem blk_mem {O:List Ob} {i:Nat} (h:i<O.length):∃ x∈O,x.1=blk O i:=by
 refine ⟨O[i],List.getElem_mem h,?_⟩
 simp [blk,List.getD,h]
theorem putOb_heap:∀ {O:List Ob} {w:World} (_:(O.map (·.1)).Nodup) (_:∀ x∈O,w.heap[x.1]?=some (.cells x.2.1 x.2.2 (0,0))) (i o:Nat) (v:Value) (_:i<O.length),∀ x∈putOb O i o v,(w.setCell ⟨blk O i,o,none⟩ v).heap[x.1]?=some (.cells x.2.1 x.2.2 (0,0))
 | [],_,_,_,_,_,_,hi=>by simp at hi
 | x::r,w,hd,h,0,o,v,_=>by
  intro y hy
  simp only [putOb,List.mem_cons] at hy
  rcases hy with rfl | hy
  ·exact set_objF (h x (by simp))
  ·have hne:y.1≠x.1:=fun e=>(List.nodup_cons.1 hd).1 (by show x.1∈_;rw [←e];exact List.mem_map_of_mem hy)
   exact (Below.heap_setCell _ _ _ _ hne).trans (h y (by simp [hy]))
 | x::r,w,hd,h,i+1,o,v,hi=>by
  intro y hy
  have hi2:i<r.length:=by simpa using hi
  have hb:blk (x::r) (i+1)=blk r i:=by simp [blk]
  rw [hb]
  simp only [putOb,List.mem_cons] at hy
  rcases hy with rfl | hy
  ·have hne:y.1≠blk r i:=fun e=>by
    obtain ⟨z,hz,e2⟩:=blk_mem hi2
    exact (List.nodup_cons.1 hd).1 (by show y.1∈_;rw [e,←e2];exact List.mem_map_of_mem hz)
   exact (Below.heap_setCell _ _ _ _ hne).trans (h y (by simp))
  ·exact putOb_heap (List.nodup_cons.1 hd).2 (fun z hz=>h z (by simp [hz])) i o v hi2 y hy
theorem blk_fst {O O':List Ob} (h:O.map (·.1)=O'.map (·.1)) (i:Nat):blk O i=blk O' i:=by unfold blk;rw [h]
theorem putObs_heap {O:List Ob} {w:World} (hd:(O.map (·.1)).Nodup) (h:∀ x∈O,w.heap[x.1]?=some (.cells x.2.1 x.2.2 (0,0))) (ps:List (Nat × Nat)) (hps:∀ q∈ps,q.1<O.length) (val:Nat→Nat) (k:Nat):∀ x∈putObs O ps val k,(setPs w (ps.map (adOf O)) val k).heap[x.1]?=some (.cells x.2.1 x.2.2 (0,0)):=by
 induction k with
 | zero=>exact h
 | succ k ih =>
  simp only [putObs,setPs,List.getElem?_map]
  cases hq:ps[k]? with
  | none=>exact ih
  | some q =>
   simp only [Option.map_some,adOf]
   have hf:=putObs_fst O ps val k
   rw [←blk_fst hf q.1]
   have hl:=congrArg List.length hf
   simp only [List.length_map] at hl
   exact putOb_heap (by rw [hf];exact hd) ih q.1 q.2 _ (by rw [hl];exact hps q (List.mem_of_getElem? hq))
theorem Ths.obs {B:Nat} {w:World}:∀ {O:List Ob} {L:List Th},Ths B w (O.map thOb++L)→(O.map (·.1)).Nodup∧(∀ x∈O,w.heap[x.1]?=some (.cells x.2.1 x.2.2 (0,0)))∧(∀ x∈O,B≤x.1)∧(∀ x∈O,∀ u∈L,¬u.F x.1)∧Ths B w L
 | [],L,h=>⟨by simp,by simp,by simp,by simp,h⟩
 | x::r,L,h=>by
  obtain ⟨h1,h2,h3,h4⟩:=h
  obtain ⟨g1,g2,g3,g4,g5⟩:=Ths.obs (O:=r) h4
  refine ⟨?_,?_,?_,?_,g5⟩
  ·rw [List.map_cons,List.nodup_cons]
   refine ⟨fun hm=>?_,g1⟩
   obtain ⟨y,hy,e⟩:=List.mem_map.1 hm
   exact h3 (thOb y) (List.mem_append.2 (.inl (List.mem_map.2 ⟨y,hy,rfl⟩))) x.1 rfl e.symm
  ·intro y hy
   rcases List.mem_cons.1 hy with rfl | hy
   ·exact h1
   ·exact g2 y hy
  ·intro y hy
   rcases List.mem_cons.1 hy with rfl | hy
   ·exact h2 _ rfl
   ·exact g3 y hy
  ·intro y hy u hu
   rcases List.mem_cons.1 hy with rfl | hy
   ·exact h3 u (by simp [hu]) y.1 rfl
   ·exact g4 y hy u hu
theorem Ths.mkObs {B:Nat} {w:World}:∀ {O:List Ob} {L:List Th},(O.map (·.1)).Nodup→(∀ x∈O,w.heap[x.1]?=some (.cells x.2.1 x.2.2 (0,0)))→(∀ x∈O,B≤x.1)→(∀ x∈O,∀ u∈L,¬u.F x.1)→Ths B w L→Ths B w (O.map thOb++L)
 | [],_,_,_,_,_,h=>h
 | x::r,L,h1,h2,h3,h4,h5=>by
  rw [List.map_cons,List.nodup_cons] at h1
  refine ⟨h2 x (by simp),fun y e=>?_,fun u hu y e huy=>?_,Ths.mkObs h1.2 (fun y hy=>h2 y (by simp [hy])) (fun y hy=>h3 y (by simp [hy])) (fun y hy=>h4 y (by simp [hy])) h5⟩
  ·have e':y=x.1:=e
   rw [e'];exact h3 x (by simp)
  ·have e':y=x.1:=e
   subst e'
   rcases List.mem_append.1 hu with hu | hu
   ·obtain ⟨z,hz,rfl⟩:=List.mem_map.1 hu
    have:x.1=z.1:=huy
    exact h1.1 (by rw [this];exact List.mem_map_of_mem hz)
   ·exact h4 x (by simp) u hu huy
theorem Keeps.join {a b:World} {S T:Nat→Prop} (h:Keeps a b S) (hS:∀ x,S x→T x):Keeps a b T:=⟨h.os,h.tape,h.output,h.size,fun k hk hn=>h.block k hk fun s=>hn (hS k s)⟩
set_option maxHeartbeats 1000000 in
theorem St.readNums {W w:World} {L:List Th} {p g:Nat} {rest:List UInt8} {bad:Bool} {O:List Ob} (h:St W w (thRd p g rest bad::(O.map thOb++L))) (hm:rest.length≤140737488351232) (ps:List (Nat × Nat)) (hps:∀ q∈ps,∃ x v,O[q.1]?=some x∧x.2.1[q.2]?=some v) (s k:Nat) (hs:s=w.heap.size) (hk:k=ps.length) (hl:ps.length≤1000) (cur:Array Value) (T:TypeId) (hc:cur=(ps.map fun q=>Value.pointer (adOf O q)).toArray) :
 Calls Try.prog 28 #[.pointer (some ⟨p,0,none⟩),.slice (some ⟨s,0,none⟩) k k] (w.alloc (.cells cur T)) fun e w'=>e=.returned (.tuple #[])∧St W w' (thRd p g (rdSt rest bad k).1 (rdSt rest bad k).2::((putObs O ps (rdVal rest bad) k).map thOb++L)):=by
 subst hs hk
 have hlt:∀ q∈ps,q.1<O.length:=fun q hq=>by
  obtain ⟨x,v,hx,-⟩:=hps q hq
  exact (List.getElem?_eq_some_iff.1 hx).1
 have hr:RdAt w p g rest bad:=h.head
 have hp:=hr.lt
 have hW:=h.b.size
 have hg:St W (w.alloc (.cells cur T)) (thRd p g rest bad::(O.map thOb++L)):=h.grow (below_allocO _ _)
 obtain ⟨o1,o2,o3,o4,o5⟩:=Ths.obs hg.t.2.2.2
 obtain ⟨-,p2,-,-,-⟩:=Ths.obs h.t.2.2.2
 have hdis:=hg.t.2.2.1
 have hOp:∀ x∈O,x.1≠p∧(0<rest.length→x.1≠g):=fun x hx=>by
  have hu:thOb x∈O.map thOb++L:=List.mem_append.2 (.inl (List.mem_map.2 ⟨x,hx,rfl⟩))
  exact ⟨fun e=>hdis _ hu p (.inl rfl) e.symm,fun hl e=>hdis _ hu g (.inr ⟨rfl,hl⟩) e.symm⟩
 have hlen:(ps.map (adOf O)).length=ps.length:=by simp
 have hcall:=rdnums_ptrs p g w.heap.size ps.length rest bad (ps.map (adOf O)) (w.alloc (.cells cur T)) hg.head hm (by rw [hlen];exact hl)
  (fun i hi=>by
   rw [hlen] at hi
   rw [(cells_of_obj (heap_new w (.cells cur T))).1,hc]
   simp [hi])
  (by simp) (by omega)
  (fun a ha=>by
   obtain ⟨q,hq,e⟩:=List.mem_map.1 ha
   simp only [adOf,Option.some.injEq] at e
   obtain ⟨x,v,hx,hv⟩:=hps q hq
   have hxm:=List.mem_of_getElem? hx
   have hbx:blk O q.1=x.1:=by simp [blk,List.getD,hx]
   have hab:a=⟨x.1,q.2,none⟩:=by rw [←e,hbx]
   subst hab
   have hcx:=cells_of_obj (o2 x hxm)
   refine ⟨(hOp x hxm).1,?_,(hOp x hxm).2,⟨v,by rw [hcx.1];exact hv⟩,hcx.2 _⟩
   have:=lt_of_block (p2 x hxm)
   simp only;omega)
 rw [hlen] at hcall
 refine hcall.mono ?_
 rintro e w' ⟨rfl,hr2,hk2⟩
 refine ⟨rfl,?_⟩
 have hsp:=setPs_keeps (w.alloc (.cells cur T)) (ps.map (adOf O)) (rdVal rest bad) ps.length
 have hfst:=putObs_fst O ps (rdVal rest bad) ps.length
 have hmemO:∀ x∈putObs O ps (rdVal rest bad) ps.length,∃ y∈O,y.1=x.1:=fun x hx=>by
  have:x.1∈(putObs O ps (rdVal rest bad) ps.length).map (·.1):=List.mem_map_of_mem hx
  rw [hfst] at this
  obtain ⟨y,hy,e⟩:=List.mem_map.1 this
  exact ⟨y,hy,e⟩
 have hK:Keeps (w.alloc (.cells cur T)) w' (fun x=>x=p∨∃ y∈O,y.1=x):=by
  refine hsp.trans hk2 (fun x ⟨a,ha,e⟩=>?_) (fun x _ e=>.inl e)
  obtain ⟨q,hq,e2⟩:=List.mem_map.1 ha
  simp only [adOf,Option.some.injEq] at e2
  obtain ⟨y,hy,e3⟩:=blk_mem (hlt q hq)
  exact .inr ⟨y,hy,by rw [←e,←e2];exact e3⟩
 have hL5:Ths W.heap.size w' L:=o5.keep hK (fun t ht x hx hS=>by
  rcases hS with rfl | ⟨y,hy,rfl⟩
  ·exact hdis t (by simp [ht]) x (.inl rfl) hx
  ·exact o4 y hy t ht hx)
 refine ⟨hg.b.trans (hK.below (fun x hx=>?_) hg.b.size),hr2,fun x hx=>?_,fun u hu x hx hux=>?_,Ths.mkObs (by rw [hfst];exact o1) (fun x hx=>?_) (fun x hx=>?_) (fun x hx u hu=>?_) hL5⟩
 ·rcases hx with rfl | ⟨y,hy,rfl⟩
  ·exact hg.t.2.1 x (.inl rfl)
  ·exact o3 y hy
 ·rcases hx with rfl | ⟨rfl,hx⟩
  ·exact hg.t.2.1 x (.inl rfl)
  ·exact hg.t.2.1 x (.inr ⟨rfl,Nat.lt_of_lt_of_le hx (rdSt_le rest bad _)⟩)
 ·have hx2:(thRd p g rest bad).F x:=by
   rcases hx with rfl | ⟨rfl,hx⟩
   ·exact .inl rfl
   ·exact .inr ⟨rfl,Nat.lt_of_lt_of_le hx (rdSt_le rest bad _)⟩
  rcases List.mem_append.1 hu with hu | hu
  ·obtain ⟨z,hz,rfl⟩:=List.mem_map.1 hu
   obtain ⟨y,hy,e⟩:=hmemO z hz
   exact hdis (thOb y) (List.mem_append.2 (.inl (List.mem_map.2 ⟨y,hy,rfl⟩))) x hx2 (by
    have:x=z.1:=hux
    show x=y.1
    rw [e];exact this)
  ·exact hdis u (by simp [hu]) x hx2 hux
 ·have h1:=putObs_heap o1 o2 ps hlt (rdVal rest bad) ps.length x hx
  obtain ⟨y,hy,e⟩:=hmemO x hx
  rw [hk2.block x.1 (lt_of_block h1) (by rw [←e];exact (hOp y hy).1)]
  exact h1
 ·obtain ⟨y,hy,e⟩:=hmemO x hx
  rw [←e];exact o3 y hy
 ·obtain ⟨y,hy,e⟩:=hmemO x hx
  rw [←e];exact o4 y hy u hu
theorem St.readNum {W w:World} {L:List Th} {p g:Nat} {rest:List UInt8} {bad:Bool} (h:St W w (thRd p g rest bad::L)) (hm:rest.length≤140737488351232) :
 Calls Try.prog 46 #[.pointer (some ⟨p,0,none⟩)] w fun e w'=>e=.returned (.int .i64 ((numT rest bad).1:Nat))∧St W w' (thRd p g (numT rest bad).2.1 (numT rest bad).2.2::L):=by
 refine (rdnum_t p g rest bad w h.head hm).mono ?_
 rintro e w' ⟨rfl,hr,hk⟩
 exact ⟨rfl,h.read hr hk (numT_le _ _).1⟩
theorem St.readBytes {W w:World} {L:List Th} {p g:Nat} {rest:List UInt8} {bad:Bool} (h:St W w (thRd p g rest bad::L)) (hm:rest.length≤140737488351232) :
 Calls Try.prog 29 #[.pointer (some ⟨p,0,none⟩)] w fun e w'=>∃ ao cap,e=.returned (.slice ao (tookOf rest bad).1.length cap)∧OwnB w' w.heap.size ao cap (tookOf rest bad).1∧St W w' (thRd p g (tookOf rest bad).2.1 (tookOf rest bad).2.2::L):=by
 refine (rdbytes_any p g rest bad w h.head hm).mono ?_
 rintro e w' ⟨x,r',b',ao,cap,ht,rfl,ho,hr,hk⟩
 rw [←ht]
 exact ⟨ao,cap,rfl,ho,h.read hr hk (tookOf_le ht).2⟩
end Go.Proofs.Ytogamdaomdoapaa