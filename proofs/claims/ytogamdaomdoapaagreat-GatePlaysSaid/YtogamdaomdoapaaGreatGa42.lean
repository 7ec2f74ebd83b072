/- Texts put together: RtC, RtH. -/
import Derived.Test.YtogamdaomdoapaaGreatGa13
import Derived.Test.YtogamdaomdoapaaGreatGa39
import Derived.Test.YtogamdaomdoapaaGreatGa40
import Derived.Test.YtogamdaomdoapaaGreatGa41
namespace Go.Proofs.YtogamdaomdoapaaGreat.G
open Go.Value renaming int→aI,string→aS,bool→aB
open Go.IntKind renaming i64→aK
open List renaming setIfInBounds_toArray→lA,set_cons_zero→lZ,set_cons_succ→lS
open Bool renaming eq_false_or_eq_true→bE
open Go.Lib renaming hid→uH
set_option maxRecDepth 20000
open Go.RowKit
def j0k (w:World) (b:Nat) (f t:Int) (l:List UInt8):Prop:=∃ ao cap,w.heap[b]?=some (.cells #[aI aK f,aI aK t,.slice ao l.length cap] 52 (0,0))∧F.Sl w ao cap l
theorem v0l {w:World} {p:Nat} {g:Gt} {av:Value} (hq:w.heap[p]?=some (.cells (rgV g av) 71 (0,0))) (hav:∀ n,av≠aI .u8 n) {ao:Option Addr} {c:Nat} {l:List UInt8} (h:F.Sl w ao c l):0<l.length→∀ a,ao=some a→a.block≠p:=by
 intro hp a' ha he
 obtain ⟨g',o,e,hz,hr⟩:=h.at_ hp
 rw [e] at ha
 obtain rfl:=Option.some.inj ha
 simp only at he
 subst he
 have h0:=hr 0 hp
 rw [cell_of_row w g' _ _ _ _ hq] at h0
 have hlt:o+0<19:=by
  rcases Nat.lt_or_ge (o+0) 19 with h1 | h1
  ·exact h1
  ·rw [Array.getElem?_eq_none (by exact h1)] at h0
   cases h0
 generalize o+0=k at h0 hlt
 match k,hlt with
 | 0,_ | 1,_ | 2,_ | 3,_ | 4,_ | 5,_ | 6,_ | 7,_ | 8,_ | 9,_ | 10,_ | 11,_ | 12,_ | 13,_ | 14,_ | 15,_ | 16,_ | 17,_=>simp [rgV] at h0
 | 18,_=>exact hav _ (by simpa [rgV] using h0)
theorem j0k.grow {w w':World} {b:Nat} {f t:Int} {l:List UInt8} (h:j0k w b f t l) (hb:Below w.heap.size w w'):j0k w' b f t l:=by
 obtain ⟨ao,cap,h1,h2⟩:=h
 exact ⟨ao,cap,(hb.block b (lt_of_block h1)).trans h1,h2.grow hb⟩
theorem j0k.set {w:World} {b p:Nat} {f t:Int} {l:List UInt8} {g:Gt} {av:Value} (h:j0k w b f t l) (hq:w.heap[p]?=some (.cells (rgV g av) 71 (0,0))) (hav:∀ n,av≠aI .u8 n) (o:Nat) (v:Value):j0k (w.setCell ⟨p,o,none⟩ v) b f t l:=by
 obtain ⟨ao,cap,h1,h2⟩:=h
 have hne:b≠p:=fun e=>by
  subst e
  rw [h1] at hq
  have:=congrArg (fun x=>match x with | some (Obj.cells V _ _)=>V.size | _=>0) hq
  exact absurd this (by decide:(3:Nat)≠19)
 exact ⟨ao,cap,(Below.heap_setCell _ _ _ _ (by show b≠p;exact hne)).trans h1,k0m h2 (v0l hq hav h2)⟩
def z0h (W:World) (L:List Th) (p:Nat) (g:Gt) (av:Value) (e:Ending) (w':World):Prop:=∃ b,e=.returned (.slice (some ⟨b,0,none⟩) 1 1)∧St W w' (thR p { g with wait:=4 } av::L)∧j0k w' b g.id g.host (encW (f0j g.op))
set_option maxHeartbeats 4000000 in
theorem call_r {W w:World} {L:List Th} {p:Nat} {g:Gt} {av:Value} (S0:St W w (thR p g av::L)) (hm:mayO g.op=true):Calls Tryz.prog 31 #[.pointer (some ⟨p,0,none⟩)] w (z0h W L p g av):=by
 have S:=uH S0
 have hv:wdV (f0j g.op) (.slice none 0 0) (.slice none 0 0)=#[aI aK 5,aI aK 0,aI aK 0,aI aK 0,aI aK 0,aI aK 0,aI aK 0,aI aK 0,aS ⟨#[]⟩,aS ⟨#[]⟩,aI aK g.op.kind,aI aK g.op.client,aI aK g.op.seq,aS g.op.key,aS g.op.who,aS g.op.tkey,aS g.op.twho,aI aK g.op.item,aI aK g.op.count,aI aK g.op.price,aB g.op.buy,aI aK g.op.id,aI aK 0,aI aK 0,aI aK 0,aI aK 0,aI aK 0,aI aK 0,aI aK 0,aI aK 0,.slice none 0 0,aI aK 0,aI aK 0,aI aK 0,aI aK 0,aS ⟨#[]⟩,.slice none 0 0]:=rfl
 have hms:=fun f t w=>msg_any (d:=f0j g.op) (V:=wdV (f0j g.op) (.slice none 0 0) (.slice none 0 0)) rfl rfl rfl (l0q _) f t w
 have hby:byG (f0j g.op)=encW (f0j g.op):=by unfold byG;rw [if_pos (p0t hm)]
 rw [hby,hv] at hms
 obtain ⟨X,hX⟩:∃ X,X=encW (f0j g.op):=⟨_,rfl⟩
 rw [←hX] at hms
 have Hms:=uH hms
 have HX:=uH hX
 clear hv hms hX hby S0
 have hp:=(S.out.a0b 0 rfl).1
 have hfz:=(S.out.a0b 0 rfl).2.2
 obtain ⟨c0,c1,c2,c3,c4,c5,c6,c7,c8,c9,c10,c11,c12,c13,c14,c15,c16,c17,c18⟩:=rbox (show w.heap[p]?=some (.cells (rgV g av) 71 (0,0)) from S.out.head)
 clear c0 c1 c2 c3 c5 c6 c7 c8 c9 c10 c11 c12 c13 c14 c15 c16 c17 c18
 go_enter Tryz.func31,Tryz.ntmps31
 refine a0a fun C HC=>?_
 go_wp2_with fail
 ((have hC:=HC.out);clear HC;subst hC)
 refine a0a fun C HC=>?_
 go_wp2_with fail
 ((have hC:=HC.out);clear HC;subst hC)
 refine a0d fun w1 hw1=>?_
 obtain ⟨g1,hg1⟩:∃ g1:Gt,g1={ g with wait:=4 }:=⟨_,rfl⟩
 have S1:Hid (St W w1 (thR p g1 av::L)):=by
  have h:=S.out.setObj 4 (aI aK 4)
  rw [←hw1] at h
  have eV:(rgV g av).setIfInBounds 4 (aI aK 4)=rgV g1 av:=by
   rw [hg1]
   unfold rgV
   simp only [lA,lZ,lS]
  rw [eV] at h
  exact uH h
 have Hg1:=uH hg1
 rw [show g.op=g1.op from by rw [hg1]] at Hms
 clear hg1 hw1 hfz hp c4 S
 refine wp_seq ?_
 (obtain ⟨wd,hwd⟩:∃ wd,wd=w1.drew:=⟨_,rfl⟩)
 have S:=uH (S1.out.grow (w':=wd) (by rw [hwd];exact (Below.refl _ _).drew))
 have HC:Hid (wd.heap[p]?=some (.cells (rgV g1 av) 71 (0,0))):=uH S.out.head
 refine wp_region_noPanic ?_
 refine wp_region_held (S:=(fun W:World=>W.heap[p]?=some (.cells (rgV g1 av) 71 (0,0)))) (by kernel_rfl) ?_
 change wpAnyH _ _ _ _ _ _ _ _ (World.drew _)
 rw [←hwd]
 clear hwd S1
 (refine tkD (i:=0) (v:=.pointer (some ⟨p,0,none⟩)) 6 rfl (fun w hSw=>(by obtain ⟨c0,c1,c2,c3,c4,c5,c6,c7,c8,c9,c10,c11,c12,c13,c14,c15,c16,c17,c18⟩:=rbox (show w.heap[p]?=some (.cells (rgV g1 av) 71 (0,0)) from hSw);go_simp)) HC.out ?_;(try simp only [Act.put,lA,lZ,lS]))
 (refine tkD (i:=1) (v:=.pointer (some ⟨p,0,none⟩)) 7 rfl (fun w hSw=>(by obtain ⟨c0,c1,c2,c3,c4,c5,c6,c7,c8,c9,c10,c11,c12,c13,c14,c15,c16,c17,c18⟩:=rbox (show w.heap[p]?=some (.cells (rgV g1 av) 71 (0,0)) from hSw);go_simp)) HC.out ?_;(try simp only [Act.put,lA,lZ,lS]))
 (refine tkD (i:=2) (v:=.pointer (some ⟨p,0,none⟩)) 8 rfl (fun w hSw=>(by obtain ⟨c0,c1,c2,c3,c4,c5,c6,c7,c8,c9,c10,c11,c12,c13,c14,c15,c16,c17,c18⟩:=rbox (show w.heap[p]?=some (.cells (rgV g1 av) 71 (0,0)) from hSw);go_simp)) HC.out ?_;(try simp only [Act.put,lA,lZ,lS]))
 (refine tkD (i:=3) (v:=aI aK g1.id) 9 rfl (fun w hSw=>(by obtain ⟨c0,c1,c2,c3,c4,c5,c6,c7,c8,c9,c10,c11,c12,c13,c14,c15,c16,c17,c18⟩:=rbox (show w.heap[p]?=some (.cells (rgV g1 av) 71 (0,0)) from hSw);go_simp)) HC.out ?_;(try simp only [Act.put,lA,lZ,lS]))
 (refine tkD (i:=4) (v:=.pointer (some ⟨p,0,none⟩)) 10 rfl (fun w hSw=>(by obtain ⟨c0,c1,c2,c3,c4,c5,c6,c7,c8,c9,c10,c11,c12,c13,c14,c15,c16,c17,c18⟩:=rbox (show w.heap[p]?=some (.cells (rgV g1 av) 71 (0,0)) from hSw);go_simp)) HC.out ?_;(try simp only [Act.put,lA,lZ,lS]))
 (refine tkD (i:=5) (v:=.pointer (some ⟨p,0,none⟩)) 11 rfl (fun w hSw=>(by obtain ⟨c0,c1,c2,c3,c4,c5,c6,c7,c8,c9,c10,c11,c12,c13,c14,c15,c16,c17,c18⟩:=rbox (show w.heap[p]?=some (.cells (rgV g1 av) 71 (0,0)) from hSw);go_simp)) HC.out ?_;(try simp only [Act.put,lA,lZ,lS]))
 (refine tkD (i:=6) (v:=.pointer (some ⟨p,3,none⟩)) 12 rfl (fun w hSw=>(by obtain ⟨c0,c1,c2,c3,c4,c5,c6,c7,c8,c9,c10,c11,c12,c13,c14,c15,c16,c17,c18⟩:=rbox (show w.heap[p]?=some (.cells (rgV g1 av) 71 (0,0)) from hSw);go_simp)) HC.out ?_;(try simp only [Act.put,lA,lZ,lS]))
 (refine tkD (i:=7) (v:=aI aK g1.host) 13 rfl (fun w hSw=>(by obtain ⟨c0,c1,c2,c3,c4,c5,c6,c7,c8,c9,c10,c11,c12,c13,c14,c15,c16,c17,c18⟩:=rbox (show w.heap[p]?=some (.cells (rgV g1 av) 71 (0,0)) from hSw);go_simp)) HC.out ?_;(try simp only [Act.put,lA,lZ,lS]))
 (refine tkD (i:=8) (v:=.pointer (some ⟨p,0,none⟩)) 14 rfl (fun w hSw=>(by obtain ⟨c0,c1,c2,c3,c4,c5,c6,c7,c8,c9,c10,c11,c12,c13,c14,c15,c16,c17,c18⟩:=rbox (show w.heap[p]?=some (.cells (rgV g1 av) 71 (0,0)) from hSw);go_simp)) HC.out ?_;(try simp only [Act.put,lA,lZ,lS]))
 (refine tkD (i:=9) (v:=.pointer (some ⟨p,0,none⟩)) 15 rfl (fun w hSw=>(by obtain ⟨c0,c1,c2,c3,c4,c5,c6,c7,c8,c9,c10,c11,c12,c13,c14,c15,c16,c17,c18⟩:=rbox (show w.heap[p]?=some (.cells (rgV g1 av) 71 (0,0)) from hSw);go_simp)) HC.out ?_;(try simp only [Act.put,lA,lZ,lS]))
 (refine tkD (i:=10) (v:=.pointer (some ⟨p,5,none⟩)) 16 rfl (fun w hSw=>(by obtain ⟨c0,c1,c2,c3,c4,c5,c6,c7,c8,c9,c10,c11,c12,c13,c14,c15,c16,c17,c18⟩:=rbox (show w.heap[p]?=some (.cells (rgV g1 av) 71 (0,0)) from hSw);go_simp)) HC.out ?_;(try simp only [Act.put,lA,lZ,lS]))
 (refine tkD (i:=11) (v:=.agg #[aI aK g1.op.kind,aI aK g1.op.client,aI aK g1.op.seq,aS g1.op.key,aS g1.op.who,aS g1.op.tkey,aS g1.op.twho,aI aK g1.op.item,aI aK g1.op.count,aI aK g1.op.price,aB g1.op.buy,aI aK g1.op.id]) 17 rfl (fun w hSw=>(by obtain ⟨c0,c1,c2,c3,c4,c5,c6,c7,c8,c9,c10,c11,c12,c13,c14,c15,c16,c17,c18⟩:=rbox (show w.heap[p]?=some (.cells (rgV g1 av) 71 (0,0)) from hSw);go_simp)) HC.out ?_;(try simp only [Act.put,lA,lZ,lS]))
 (refine tkD (i:=12) (v:=.agg #[aI aK 5,aI aK 0,aI aK 0,aI aK 0,aI aK 0,aI aK 0,aI aK 0,aI aK 0,aS ⟨#[]⟩,aS ⟨#[]⟩,aI aK g1.op.kind,aI aK g1.op.client,aI aK g1.op.seq,aS g1.op.key,aS g1.op.who,aS g1.op.tkey,aS g1.op.twho,aI aK g1.op.item,aI aK g1.op.count,aI aK g1.op.price,aB g1.op.buy,aI aK g1.op.id,aI aK 0,aI aK 0,aI aK 0,aI aK 0,aI aK 0,aI aK 0,aI aK 0,aI aK 0,.slice none 0 0,aI aK 0,aI aK 0,aI aK 0,aI aK 0,aS ⟨#[]⟩,.slice none 0 0]) 18 rfl (fun w hSw=>(by obtain ⟨c0,c1,c2,c3,c4,c5,c6,c7,c8,c9,c10,c11,c12,c13,c14,c15,c16,c17,c18⟩:=rbox (show w.heap[p]?=some (.cells (rgV g1 av) 71 (0,0)) from hSw);go_simp)) HC.out ?_;(try simp only [Act.put,lA,lZ,lS]))
 (refine oneD 13 rfl (fun K' hK'=>?_))
 go_simp
 refine (Hms.out g1.id g1.host wd).mono ?_
 rintro e w5 ⟨xo,xc,rfl,hb5,hx⟩
 have S:=uH (S.out.grow hb5)
 have Hx:=uH hx
 have HC:Hid (w5.heap[p]?=some (.cells (rgV g1 av) 71 (0,0))):=uH S.out.head
 refine hK' _ _ ⟨HC.out,?_⟩
 clear hK' K' hb5 hx
 (try simp only [Act.put,lA,lZ,lS])
 (refine oneD 14 rfl (fun K' hK'=>?_))
 go_simp
 obtain ⟨n,hn⟩:∃ n,n=X.length:=⟨_,rfl⟩
 rw [←hn]
 refine hK' _ _ ⟨?_,a0k fun w6 hw6=>?_⟩
 ·exact (S.out.grow bg).head
 have hb6:Below w5.heap.size w5 w6:=by rw [hw6];exact bg
 have Hm6:Hid (j0k w6 w5.heap.size g1.id g1.host X):=uH (by
  rw [hw6]
  refine ⟨xo,xc,?_,Hx.out.grow bg⟩
  rw [←hn]
  exact heap_alloc_new w5 _)
 have S:=uH (S.out.grow hb6)
 have HC:Hid (w6.heap[p]?=some (.cells (rgV g1 av) 71 (0,0))):=uH S.out.head
 clear hw6 hb6 hK' K' Hx hn
 (try simp only [Act.put,lA,lZ,lS])
 (refine tkD (i:=15) (v:=.slice (some ⟨w5.heap.size,0,none⟩) 1 1) 2 rfl (fun w hSw=>(by obtain ⟨c0,c1,c2,c3,c4,c5,c6,c7,c8,c9,c10,c11,c12,c13,c14,c15,c16,c17,c18⟩:=rbox (show w.heap[p]?=some (.cells (rgV g1 av) 71 (0,0)) from hSw);go_simp)) HC.out ?_;(try simp only [Act.put,lA,lZ,lS]))
 refine wpAnyH_done (by kernel_rfl) ?_ _
 refine NoPanic.normal ?_
 go_wp2_with fail
 go_ret
 refine ⟨_,rfl,?_,?_⟩
 ·rw [←Hg1.out]
  exact S.out
 ·rw [←HX.out,show g.id=g1.id from by rw [Hg1.out],show g.host=g1.host from by rw [Hg1.out]]
  exact Hm6.out
def g0r (W:World) (L:List Th) (p:Nat) (g:Gt) (av:Value) (e:Ending) (w':World):Prop:=St W w' (thR p (h0g g) av::L)∧if h0j g=true then ∃ b,e=.returned (.slice (some ⟨b,0,none⟩) 1 1)∧j0k w' b g.id g.host (encW (f0j g.op)) else e=.returned (.slice none 0 0)
theorem s0b {g g1:Gt} {av:Value} (i:Nat) (v:Value) (h:(rgV g av).setIfInBounds i v=rgV g1 av) {W w:World} {L:List Th} {p:Nat} (S:St W w (thR p g av::L)):St W (w.setCell ⟨p,i,none⟩ v) (thR p g1 av::L):=by
 have h2:=S.setObj i v
 rw [h] at h2
 exact h2
set_option maxHeartbeats 4000000 in
theorem tick_r {W w:World} {L:List Th} {p:Nat} {g:Gt} {av:Value} (S0:St W w (thR p g av::L)) (hok:Ok g) (hav:∀ n,av≠aI .u8 n):Calls Tryz.prog 19 #[.pointer (some ⟨p,0,none⟩)] w (g0r W L p g av):=by
 have S:=uH S0
 have Hok:=uH hok
 clear S0 hok
 have hp:=(S.out.a0b 0 rfl).1
 have Hpn:=uH hp
 have hfz:=(S.out.a0b 0 rfl).2.2
 obtain ⟨c0,c1,c2,c3,c4,c5,c6,c7,c8,c9,c10,c11,c12,c13,c14,c15,c16,c17,c18⟩:=rbox (show w.heap[p]?=some (.cells (rgV g av) 71 (0,0)) from S.out.head)
 clear c0 c1 c2 c5 c6 c7 c8 c9 c10 c11 c12 c13 c14 c15 c16 c18
 cases hpd:g.pend with
 | false =>
  have e1:h0g g=g:=by unfold h0g;rw [hpd];rfl
  have e2:h0j g=false:=by unfold h0j;rw [hpd];rfl
  rw [hpd] at c17
  have H1:=uH (⟨e1,e2⟩:_∧_)
  clear e1 e2 hpd c3 c4
  go_enter Tryz.func19,Tryz.ntmps19
  go_wp2_with fail
  go_ret
  unfold g0r
  rw [H1.out.1,H1.out.2]
  exact ⟨S.out.grow bg,rfl⟩
 | true =>
  rw [hpd] at c17
  have hwb:=Hok.out.wait
  obtain ⟨k,hk⟩:∃ k,k=g.wait:=⟨_,rfl⟩
  rw [←hk] at c4 hwb
  by_cases hw:0<k
  ·obtain ⟨g1,hg1⟩:∃ g1:Gt,g1={ g with wait:=k - 1 }:=⟨_,rfl⟩
   have e1:h0g g=g1:=by unfold h0g;rw [if_pos hpd,←hk,if_pos hw,hg1]
   have e2:h0j g=false:=by unfold h0j;rw [hpd,←hk,decide_eq_false (by omega)];rfl
   have hw1:IntKind.i64.wrap (k - 1)=k - 1:=by rw [IntKind.wrap_i64];omega
   have S1:=uH (s0b (g1:=g1) 4 (aI aK (k - 1)) (by rw [hg1];unfold rgV;simp only [lA,lZ,lS]) S.out)
   have H1:=uH (⟨e1,e2⟩:_∧_)
   clear e1 e2 hpd c3 hg1 hk
   go_enter Tryz.func19,Tryz.ntmps19
   go_wp2_with fail
   go_ret
   unfold g0r
   rw [H1.out.1,H1.out.2]
   exact ⟨S1.out.grow bg,rfl⟩
  ·have hk0:k=0:=by omega
   subst hk0
   obtain ⟨g1,hg1⟩:∃ g1:Gt,g1={ g with wait:=4 }:=⟨_,rfl⟩
   obtain ⟨g2,hg2⟩:∃ g2:Gt,g2={ g with wait:=4,host:=g.host+1 }:=⟨_,rfl⟩
   obtain ⟨g3,hg3⟩:∃ g3:Gt,g3={ g with wait:=4,host:=8 }:=⟨_,rfl⟩
   have e1:h0g g=if b0w g.hosts (g.host+1)=true then g2 else g3:=by unfold h0g;rw [if_pos hpd,←hk,if_neg (by decide),hg2,hg3];unfold t0y;split<;>rfl
   have e2:h0j g=true:=by unfold h0j;rw [hpd,←hk];rfl
   have H1:=uH (⟨e1,e2⟩:_∧_)
   have hh:=Hok.out.host
   have hhs:=Hok.out.hosts
   have Hca:=uH (call_r S.out (Hok.out.may hpd))
   have Hs2:=uH (fun (wx:World) (hx:St W wx (thR p g1 av::L))=>s0b (g1:=g2) 3 (aI aK (g.host+1)) (by rw [hg1,hg2];unfold rgV;simp only [lA,lZ,lS]) hx)
   have Hs3:=uH (fun (wx:World) (hx:St W wx (thR p g2 av::L))=>s0b (g1:=g3) 3 (aI aK 8) (by rw [hg2,hg3];unfold rgV;simp only [lA,lZ,lS]) hx)
   obtain ⟨h,hh1⟩:∃ h,h=g.host:=⟨_,rfl⟩
   have Hh:Hid (g1.host=h∧g2.host=h+1∧g2.hosts=g.hosts):=by rw [hg1,hg2,hh1];exact uH ⟨rfl,rfl,rfl⟩
   have Hg1:=uH hg1
   rw [←hh1] at c3 hh Hs2 H1
   have hw1:IntKind.i64.wrap (h+1)=h+1:=by rw [IntKind.wrap_i64];omega
   have Hh1:=uH hh1
   clear e1 e2 hpd hg1 hg2 hg3 hk hh1 hwb hw
   go_enter Tryz.func19,Tryz.ntmps19
   go_wp2_with fail
   refine Hca.out.mono ?_
   rintro e w1 ⟨b,rfl,hS,hM⟩
   rw [←Hg1.out] at hS
   have S1:=uH hS
   have HM:=uH hM
   clear hS hM c3 c4 c17 hfz hp S Hca
   have hp:=(S1.out.a0b 0 rfl).1
   have hfz:=(S1.out.a0b 0 rfl).2.2
   obtain ⟨c0,c1,c2,c3,c4,c5,c6,c7,c8,c9,c10,c11,c12,c13,c14,c15,c16,c17,c18⟩:=rbox (show w1.heap[p]?=some (.cells (rgV g1 av) 71 (0,0)) from S1.out.head)
   rw [Hh.out.1] at c3
   clear c0 c1 c2 c4 c17 c5 c6 c7 c8 c9 c10 c11 c12 c13 c14 c15 c16 c18
   go_wp2_with fail
   refine a0d fun w2 hw2=>?_
   have hS2:=Hs2.out w1 S1.out
   have hM2:=HM.out.set S1.out.head hav 3 (aI aK (h+1))
   rw [←hw2] at hS2 hM2
   have S2:=uH hS2
   have HM:=uH hM2
   clear hS2 hM2 hw2 c3 hfz hp S1 Hs2
   have hp:=(S2.out.a0b 0 rfl).1
   have hfz:=(S2.out.a0b 0 rfl).2.2
   obtain ⟨c0,c1,c2,c3,c4,c5,c6,c7,c8,c9,c10,c11,c12,c13,c14,c15,c16,c17,c18⟩:=rbox (show w2.heap[p]?=some (.cells (rgV g2 av) 71 (0,0)) from S2.out.head)
   rw [Hh.out.2.1] at c3
   rw [Hh.out.2.2] at c1
   clear c0 c2 c4 c5 c6 c7 c8 c9 c10 c11 c12 c13 c14 c15 c16 c17 c18
   obtain ⟨k,hk⟩:∃ k,k=g.hosts:=⟨_,rfl⟩
   rw [←hk] at c1 hhs hh H1
   have hw2:IntKind.i64.wrap (8+k)=8+k:=by rw [IntKind.wrap_i64];omega
   clear hk
   rcases bE (decide (8+k≤h+1)) with t1 | t1
   ·have hi:b0w k (h+1)=false:=by rw [decide_eq_true_eq] at t1;unfold b0w;rw [decide_eq_false (p:=h+1<8+k) (by omega),Bool.and_false]
    rw [hi] at H1
    clear hi
    go_region
    go_wp2_with fail
    go_ret
    unfold g0r
    have hb3:Below w2.heap.size w2 w2.drew:=(Below.refl _ _).drew
    refine ⟨by rw [H1.out.1];rw [if_neg (by simp)];exact Hs3.out _ (S2.out.grow hb3),?_⟩
    rw [H1.out.2,if_pos rfl]
    exact ⟨b,rfl,(HM.out.grow hb3).set (S2.out.grow hb3).head hav 3 _⟩
   ·have hi:b0w k (h+1)=true:=by rw [decide_eq_false_iff_not] at t1;exact l0e.2 (by omega)
    rw [hi] at H1
    clear hi
    go_region
    go_wp2_with fail
    go_ret
    unfold g0r
    refine ⟨by rw [H1.out.1];(first | rw [if_pos rfl] | rw [if_pos trivial]);exact S2.out.grow bg,?_⟩
    rw [H1.out.2,if_pos rfl]
    exact ⟨b,rfl,HM.out.grow bg⟩
end Go.Proofs.YtogamdaomdoapaaGreat.G
namespace Go.Proofs.YtogamdaomdoapaaGreat.G
open Go.Value renaming int→aI,string→aS,bool→aB
open Go.IntKind renaming i64→aK
open List renaming setIfInBounds_toArray→lA,set_cons_zero→lZ,set_cons_succ→lS
open Bool renaming eq_false_or_eq_true→bE
open Go.Lib renaming hid→uH
set_option maxRecDepth 20000
open Go.RowKit
def thB (base:Nat) (ao:Option Addr) (cap:Nat) (A:List An):Th:=c0f base 93 18 ao A.length cap (anR A)
def g0s (W:World) (L:List Th) (p:Nat) (g:Gt) (a0:Option Addr) (c0:Nat) (A:List An) (f t:Int) (D:Wd × Int) (e:Ending) (w':World):Prop:=∃ ao cap,(h0v g f t D=true→ao=a0∧cap=c0)∧St W w' (thR p (h0w g f t D) (.slice ao (A++g0l g f t D).length cap)::thB W.heap.size ao cap (A++g0l g f t D)::L)∧if h0v g f t D=true then ∃ b,e=.returned (.slice (some ⟨b,0,none⟩) 1 1)∧j0k w' b g.id D.1.host (encW (f0j g.op)) else e=.returned (.slice none 0 0)
theorem ransInfo:(Tryz.prog.info? 93).map (fun i=>(i.zero,i.size,i.bytes))=some (some (.agg zz18),18,176):=by kernel_rfl
theorem p0y {w:World} {base:Nat} {ao:Option Addr} {cap:Nat} {A:List An} (h:(thB base ao cap A).T w):w.ownsRow base 93 18 (.slice ao A.length cap) A.length (anR A):=h
theorem c0e {W w':World} {L:List Th} {p:Nat} {g:Gt} {A:List An} {f t:Int} {D:Wd × Int} {ao:Option Addr} {cap:Nat} (h:h0w g f t D=g∧g0l g f t D=[]∧h0v g f t D=false) (S:St W w' (thR p g (.slice ao A.length cap)::thB W.heap.size ao cap A::L)):g0s W L p g ao cap A f t D (.returned (.slice none 0 0)) w':=by
 unfold g0s
 rw [h.1,h.2.1,h.2.2,List.append_nil]
 exact ⟨ao,cap,fun _=>⟨rfl,rfl⟩,S,rfl⟩
theorem x0q {W w:World} {L:List Th} {p:Nat} {g:Gt} {av:Value} (S:St W w (thR p g av::L)) (n:Int) (h:1≤g.hosts∧g.hosts≤6):Calls Tryz.prog 33 #[.pointer (some ⟨p,0,none⟩),aI aK n] w fun e w'=>e=.returned (aB (b0w g.hosts n))∧Below w.heap.size w w' :=
 (s0z S n h).mono fun _ _ ⟨h1,h2⟩=>⟨h1,h2▸Below.refl _ _⟩
set_option maxHeartbeats 4000000 in
theorem hear_r {W w:World} {L:List Th} {p:Nat} {g:Gt} {ao:Option Addr} {cap:Nat} {A:List An} (S0:St W w (thR p g (.slice ao A.length cap)::thB W.heap.size ao cap A::L)) (hok:Ok g) (f t:Int) (bo:Option Addr) (bc:Nat) (l:List UInt8) (hdec:∀ w3:World,Below w.heap.size w w3→Calls Tryz.prog 32 #[.slice bo l.length bc] w3 (b0z w3 l)) (hA:A.length≤1000) :
 Calls Tryz.prog 20 #[.pointer (some ⟨p,0,none⟩),.agg #[aI aK f,aI aK t,.slice bo l.length bc]] w (g0s W L p g ao cap A f t (d0e l)):=by
 have S:=uH S0
 have Hok:=uH hok
 have Hde:=uH hdec
 have Hhh:=uH hok.hosts
 obtain ⟨DD,hDD⟩:∃ DD,DD=d0e l:=⟨_,rfl⟩
 rw [←hDD]
 have HDD:=uH hDD
 obtain ⟨n,hn⟩:∃ n,n=l.length:=⟨_,rfl⟩
 rw [←hn] at Hde ⊢
 clear S0 hok hdec hDD hn
 go_enter Tryz.func20,Tryz.ntmps20
 refine d0m fun R HR=>?_
 refine a0a fun C HC=>?_
 go_wp2_with fail
 refine a0d fun wb hwb=>?_
 obtain ⟨M,hM⟩:∃ M,M=w.heap.size:=⟨_,rfl⟩
 have S2:Hid (St W wb (a0c M (.cells #[aI aK f,aI aK t,.slice bo n bc] 52 (0,0))::thR p g (.slice ao A.length cap)::thB W.heap.size ao cap A::L)):=by rw [hwb];exact uH (S.out.objN _ M hM)
 have wb_b:Below w.heap.size w wb:=by rw [hwb];exact bg
 have Wb:=uH wb_b
 rw [←hM]
 clear hwb hM S wb_b
 ((have hC:=HC.out);clear HC;subst hC)
 refine a0a fun C HC=>?_
 obtain ⟨ml,mc,-⟩:=S2.out.a0b 0 rfl
 refine wp_seq ?_
 refine wp_region_lit ?_
 ((refine a0s 7 fun LL HL=>?_);simp only [List.take_succ_cons,List.take_zero,List.cons_append,List.nil_append];(go_wp2_with fail))
 refine (Hde.out wb Wb.out).mono ?_
 intro e wc hde
 obtain ⟨VX,mo,zc,dl,dc,hV,hsx,hox,rfl,hbb,-,-⟩:=p0p hde
 rw [←HDD.out] at hV
 rw [←HDD.out]
 obtain ⟨D,hD⟩:∃ D,D=DD.1:=⟨_,rfl⟩
 obtain ⟨c,hc⟩:∃ c,c=DD.2:=⟨_,rfl⟩
 rw [←hD] at hV
 rw [←hc]
 obtain ⟨pd,hpd⟩:∃ pd,pd=g.pend:=⟨_,rfl⟩
 obtain ⟨id,hid⟩:∃ id,id=g.id:=⟨_,rfl⟩
 obtain ⟨hb,hhb⟩:∃ hb,hb=b0w g.hosts f:=⟨_,rfl⟩
 have Hm:Hid (b0q g f t DD=(pd&&!(t != id)&&!(c != 0)&&!(D.kind != 6)&&!(D.op.kind != g.op.kind)&&!(D.op.client != g.op.client)&&!(D.op.seq != g.op.seq)&&hb)):=by
  unfold b0q x0k forB
  rw [hD,hc,hpd,hid,hhb]
  refine uH ?_
  rw [Bool.eq_iff_iff]
  simp only [Bool.and_eq_true,decide_eq_true_eq,Bool.not_eq_true',bne_eq_false_iff_eq]
  grind
 have HD:=uH hD
 have HV:=uH hV
 have Hpd:=uH (⟨hpd,hid,hhb⟩:_∧_∧_)
 have S3:=uH (S2.out.grow hbb)
 have Wc:=uH (Wb.out.trans (hbb.mono Wb.out.size))
 clear hde hbb S2 ml mc hD hc hV Hde hpd hid hhb
 go_wp2_with fail
 refine b0l fun wn hwn=>?_
 obtain ⟨Q,hQ⟩:∃ Q,Q=wc.heap.size:=⟨_,rfl⟩
 have S4:Hid (St W wn (a0c Q (.cells #[aI aK 0,aI aK 0,aI aK 0,aI aK 0,aI aK 0,aI aK 0,aI aK 0,aI aK 0,aS ⟨#[]⟩,aS ⟨#[]⟩,aI aK 0,aI aK 0,aI aK 0,aS ⟨#[]⟩,aS ⟨#[]⟩,aS ⟨#[]⟩,aS ⟨#[]⟩,aI aK 0,aI aK 0,aI aK 0,aB false,aI aK 0,aI aK 0,aI aK 0,aI aK 0,aI aK 0,aI aK 0,aI aK 0,aI aK 0,aI aK 0,.slice none 0 0,aI aK 0,aI aK 0,aI aK 0,aI aK 0,aS ⟨#[]⟩,.slice none 0 0] 49 (0,0))::a0c M (.cells #[aI aK f,aI aK t,.slice bo n bc] 52 (0,0))::thR p g (.slice ao A.length cap)::thB W.heap.size ao cap A::L)):=by rw [hwn];exact uH (S3.out.objN _ Q hQ)
 have Wn:Hid (Below w.heap.size w wn):=by rw [hwn];exact uH (Wc.out.alloc Wc.out.size _)
 have HQw:Hid (w.heap.size≤Q):=by rw [hQ];exact uH Wc.out.size
 rw [←hQ]
 clear hwn hQ S3 Wc
 ((have hL:=HL.out);clear HL;subst hL;simp only [List.drop_succ_cons,List.drop_zero])
 refine wpList_store_row rfl 49 _ _ rfl Q VX rfl rfl 49 _ S4.out.head (by rw [hsx];kernel_rfl) (by rw [hsx];rfl) hox ?_
 have S5:=uH (S4.out.c0m VX)
 have Wo:=uH (below_setRow Wn.out HQw.out VX)
 clear S4 Wn
 refine b0l fun wd hwd=>?_
 rw [←hwd] at S5 Wo
 clear hwd
 go_wp2_with fail
 ((have hC:=HC.out);clear HC;subst hC)
 refine a0a fun C HC=>?_
 have hQh:wd.heap[Q]?=some (.cells (wdV D (.slice mo D.mp.zs.length zc) (.slice dl D.data.length dc)) 49 (0,0)):=by rw [←HV.out];exact S5.out.head
 have hQl:=lt_of_block hQh
 obtain ⟨d0,d1,d2,d3,d4,d5,d6,d7,d8,d9,d10,d11,d12,d13,d14,d15,d16,d17,d18,d19,d20,d21,d22,d23,d24,d25,d26,d27,d28,d29,d30,d31,d32,d33,d34,d35,d36⟩:=wbox hQh
 obtain ⟨c0,c1,c2,c3,c4,c5,c6,c7,c8,c9,c10,c11,c12,c13,c14,c15,c16,c17,c18⟩:=rbox (show wd.heap[p]?=some (.cells (rgV g (.slice ao A.length cap)) 71 (0,0)) from (S5.out.pull (A:=[_,_])).head)
 have hp:=(S5.out.a0b 2 rfl).1
 obtain ⟨ml,mc,-⟩:=S5.out.a0b 1 rfl
 rw [←Hpd.out.1] at c17
 rw [←Hpd.out.2.1] at c0
 have hisH:=fun (k:Gr wd)=>x0q ((S5.out.pull (A:=[_,_])).grow (a0f wd k)) f Hhh.out
 rw [←Hpd.out.2.2] at hisH
 have HI:=uH hisH
 clear d1 d2 d3 d4 d5 d6 d7 d8 d9 d13 d14 d15 d16 d17 d18 d19 d20 d21 d22 d23 d24 d25 d26 d27 d28 d29 d30 d31 d32 d33 d34 d35 d36 c1 c2 c3 c4 c8 c9 c10 c11 c12 c13 c14 c15 c16 c18 Hpd hisH
 clear hQh
 have Hg:=uH (S5.out.drop.drop)
 cases pd with
 | false=>((have hno:b0q g f t DD=false:=(by rw [Hm.out,Bool.false_and]<;>simp));(have Hno:=uH (d0f hno));clear hno;(refine wp_seq ?_);(refine wp_seq ?_);(refine grA ?_;(repeat (go_big_quiet_step ((go_at_call 33;exact a0i (HI.out _)))));refine grN fun k=>?_);(go_wp2_with fail);(have hR:=HR.out);clear HR;subst hR;go_ret;exact c0e Hno.out (Hg.out.grow (a0f wd k)))
 | true =>
 rcases bE (t != id) with a6 | a6
 ·((have hno:b0q g f t DD=false:=(by rw [Hm.out,a6]<;>simp));(have Hno:=uH (d0f hno));clear hno;(refine wp_seq ?_);(refine wp_seq ?_);(refine grA ?_;(repeat (go_big_quiet_step ((go_at_call 33;exact a0i (HI.out _)))));refine grN fun k=>?_);(go_wp2_with fail);(have hR:=HR.out);clear HR;subst hR;go_ret;exact c0e Hno.out (Hg.out.grow (a0f wd k)))
 rcases bE (c != 0) with a0 | a0
 ·((have hno:b0q g f t DD=false:=(by rw [Hm.out,a0]<;>simp));(have Hno:=uH (d0f hno));clear hno;(refine wp_seq ?_);(refine wp_seq ?_);(refine grA ?_;(repeat (go_big_quiet_step ((go_at_call 33;exact a0i (HI.out _)))));refine grN fun k=>?_);(go_wp2_with fail);(have hR:=HR.out);clear HR;subst hR;go_ret;exact c0e Hno.out (Hg.out.grow (a0f wd k)))
 rcases bE (D.kind != 6) with a1 | a1
 ·((have hno:b0q g f t DD=false:=(by rw [Hm.out,a1]<;>simp));(have Hno:=uH (d0f hno));clear hno;(refine wp_seq ?_);(refine wp_seq ?_);(refine grA ?_;(repeat (go_big_quiet_step ((go_at_call 33;exact a0i (HI.out _)))));refine grN fun k=>?_);(go_wp2_with fail);(have hR:=HR.out);clear HR;subst hR;go_ret;exact c0e Hno.out (Hg.out.grow (a0f wd k)))
 rcases bE (D.op.kind != g.op.kind) with a2 | a2
 ·((have hno:b0q g f t DD=false:=(by rw [Hm.out,a2]<;>simp));(have Hno:=uH (d0f hno));clear hno;(refine wp_seq ?_);(refine wp_seq ?_);(refine grA ?_;(repeat (go_big_quiet_step ((go_at_call 33;exact a0i (HI.out _)))));refine grN fun k=>?_);(go_wp2_with fail);(have hR:=HR.out);clear HR;subst hR;go_ret;exact c0e Hno.out (Hg.out.grow (a0f wd k)))
 rcases bE (D.op.client != g.op.client) with a3 | a3
 ·((have hno:b0q g f t DD=false:=(by rw [Hm.out,a3]<;>simp));(have Hno:=uH (d0f hno));clear hno;(refine wp_seq ?_);(refine wp_seq ?_);(refine grA ?_;(repeat (go_big_quiet_step ((go_at_call 33;exact a0i (HI.out _)))));refine grN fun k=>?_);(go_wp2_with fail);(have hR:=HR.out);clear HR;subst hR;go_ret;exact c0e Hno.out (Hg.out.grow (a0f wd k)))
 rcases bE (D.op.seq != g.op.seq) with a4 | a4
 ·((have hno:b0q g f t DD=false:=(by rw [Hm.out,a4]<;>simp));(have Hno:=uH (d0f hno));clear hno;(refine wp_seq ?_);(refine wp_seq ?_);(refine grA ?_;(repeat (go_big_quiet_step ((go_at_call 33;exact a0i (HI.out _)))));refine grN fun k=>?_);(go_wp2_with fail);(have hR:=HR.out);clear HR;subst hR;go_ret;exact c0e Hno.out (Hg.out.grow (a0f wd k)))
 cases hb with
 | false=>((have hno:b0q g f t DD=false:=(by rw [Hm.out,Bool.and_false]<;>simp));(have Hno:=uH (d0f hno));clear hno;(refine wp_seq ?_);(refine wp_seq ?_);(refine grA ?_;(repeat (go_big_quiet_step ((go_at_call 33;exact a0i (HI.out _)))));refine grN fun k=>?_);(go_wp2_with fail);(have hR:=HR.out);clear HR;subst hR;go_ret;exact c0e Hno.out (Hg.out.grow (a0f wd k)))
 | true =>
 have hyes:b0q g f t DD=true:=by
  rw [Hm.out,a0,a1,a2,a3,a4,a6]
  rfl
 have Hy:=uH hyes
 clear hyes
 refine wp_seq ?_
 refine wp_seq ?_
 (refine grA ?_;(repeat (go_big_quiet_step ((go_at_call 33;exact a0i (HI.out _)))));refine grN fun k=>?_)
 go_wp2_with fail
 refine a0d fun we hwe=>?_
 have hke:Below wd.heap.size wd we:=by rw [hwe];exact a0f wd k
 have S6:=uH (S5.out.grow hke)
 have We:=uH (Wo.out.trans (hke.mono Wo.out.size))
 clear hwe hke S5 Hg Hm HI c17 c0 ml mc a0 a1 a2 a3 a4 a6 hp hQl d0 d10 d11 d12 c5 c6 c7 Wo
 ((have hC:=HC.out);clear HC;subst hC)
 refine a0a fun CT HCT=>?_
 refine wp_seq ?_
 refine wp_block ?_
 have hQh:we.heap[Q]?=some (.cells (wdV D (.slice mo D.mp.zs.length zc) (.slice dl D.data.length dc)) 49 (0,0)):=by rw [←HV.out];exact S6.out.head
 have hQl:=lt_of_block hQh
 have HQh:=uH hQh
 clear hQh
 by_cases e0:D.err=0
 ·have e0b:(D.err==0)=true:=beq_iff_eq.2 e0
  have hyes:=t0a Hy.out (by rw [←HD.out];exact e0)
  have Hyes:=uH hyes
  clear hyes
  refine a0a fun C HC=>?_
  obtain ⟨d0,d1,d2,d3,d4,d5,d6,d7,d8,d9,d10,d11,d12,d13,d14,d15,d16,d17,d18,d19,d20,d21,d22,d23,d24,d25,d26,d27,d28,d29,d30,d31,d32,d33,d34,d35,d36⟩:=wbox HQh.out
  clear d0 d1 d2 d3 d4 d5 d6 d8 d9 d10 d11 d12 d13 d14 d15 d16 d17 d18 d19 d20 d21 d22 d23 d24 d25 d26 d27 d28 d29 d30 d31 d32 d33 d34 d35 d36
  go_wp2_with fail
  ((have hC:=HC.out);clear HC;subst hC)
  refine wp_cond_true rfl ?_
  clear d7 e0b
  obtain ⟨i0,hi0,hz0,hz1,hz2⟩:=info_parts ransInfo
  obtain ⟨d0,d1,d2,d3,d4,d5,d6,d7,d8,d9,d10,d11,d12,d13,d14,d15,d16,d17,d18,d19,d20,d21,d22,d23,d24,d25,d26,d27,d28,d29,d30,d31,d32,d33,d34,d35,d36⟩:=wbox HQh.out
  clear d0 d1 d2 d3 d4 d5 d6 d7 d8 d9 d10 d11 d12 d13 d14 d15 d16 d17 d18 d19 d20 d21 d28 d29 d30 d31 d32 d33 d34 d35 d36
  obtain ⟨c0,c1,c2,c3,c4,c5,c6,c7,c8,c9,c10,c11,c12,c13,c14,c15,c16,c17,c18⟩:=rbox (show we.heap[p]?=some (.cells (rgV g (.slice ao A.length cap)) 71 (0,0)) from (S6.out.pull (A:=[_,_])).head)
  have fz:=(S6.out.a0b 2 rfl).2.2 18
  have hp:=(S6.out.a0b 2 rfl).1
  clear c0 c1 c2 c3 c4 c17
  have HR7:=uH (p0y (S6.out.pull (A:=[_,_,_])).head)
  have Hne:Hid (¬∃ a,ao=some a∧a.block=p):=uH (fun hx=>(S6.out.pull (A:=[_,_])).t.2.2.1 (thB W.heap.size ao cap A) (by simp) p rfl hx)
  have hWe:W.heap.size≤we.heap.size:=S6.out.b.size
  have HN:=uH (World.news_of_block (b0r we (.cells #[aI aK g.op.kind,aI aK g.op.client,aI aK g.op.seq,aS g.op.key,aS g.op.who,aS g.op.tkey,aS g.op.twho,aI aK g.op.item,aI aK g.op.count,aI aK g.op.price,aB g.op.buy,aI aK g.op.id,aI aK D.rep.err,aI aK D.rep.id,aI aK D.rep.i.a,aI aK D.rep.i.b,aI aK D.rep.i.c,aI aK D.rep.i.d] 93)))
  (have hR:=HR.out);clear HR;subst hR
  refine a0a fun C HC=>?_
  refine wp_seq ?_
  go_region_law (((refine step_append_lies _ rfl (.tmp 84) (.tmp 92) 69 rfl W.heap.size 93 i0 (.agg zz18) 18 176 Tryz.underlying69 hi0 hz0 hz1 hz2 rfl ?_ (.slice ao A.length cap) A.length (anR A) ?_ (m0f (HR7.out.alloc _)) ⟨we.heap.size,0,none⟩ 1 1 (anV (g.op,D.rep)) ?_ rfl HN.out (r0m _) ?_ ?_ ?_ ?_ (we.heap.size+1) ?_ ?_);(focus (decide));(focus (rfl));(focus (rfl));(focus (decide));(focus ((unfold maxLen);omega));(focus (omega));(focus first | (simp;done) | (simp;omega));(focus (simp;done));intro gg c2 w2 hown hgrow hg hglt;(have K2:Keeps we w2 (fun x=>∃ a,ao=some a∧a.block=x):=m0i we _ hgrow);(have k4:=(K2.cell (p:=⟨p,18,none⟩) hp (Hne.out)).trans c18);(have k5:=(K2.frozen (p:=⟨p,18,none⟩) hp (Hne.out)).trans fz);(have kz:=K2.size);(have HK2:=uH K2);(have HOW:=uH hown);(have HGG:=uH hg);clear hown hgrow hg K2))
  all_goals
   go_wp2_with fail
   refine a0d fun wf hwf=>?_
   have hgo:∀ x,(∃ a,some (⟨gg,0,none⟩:Addr)=some a∧a.block=x)→(thB W.heap.size ao cap A).F x∨we.heap.size≤x:=fun x hx=>by
    obtain ⟨a,ha,hx⟩:=hx
    obtain rfl:=Option.some.inj ha
    rcases HGG.out with h1 | h1
    ·obtain ⟨a',ha',hx'⟩:=d0k h1
     exact .inl ⟨a',ha',hx'.trans hx⟩
    ·exact .inr (by simp only at hx;omega)
   have hown:w2.ownsRow W.heap.size 93 18 (.slice (some ⟨gg,0,none⟩) (A++[(g.op,D.rep)]).length c2) (A++[(g.op,D.rep)]).length (anR (A++[(g.op,D.rep)])):=by
    rw [z0c,z0a,List.length_append]
    exact HOW.out
   have S7:=(S6.out.pull (A:=[_,_,_])).step HK2.out (thB W.heap.size (some ⟨gg,0,none⟩) c2 (A++[(g.op,D.rep)])) hown hgo
   have hl1:(A++[(g.op,D.rep)]).length=A.length+1:=by simp
   have S8:Hid (St W wf (thR p g (.slice (some ⟨gg,0,none⟩) (A++[(g.op,D.rep)]).length c2)::thB W.heap.size (some ⟨gg,0,none⟩) c2 (A++[(g.op,D.rep)])::a0c Q (.cells VX 49 (0,0))::a0c M (.cells #[aI aK f,aI aK t,.slice bo n bc] 52 (0,0))::L)):=by
    have h:=(S7.pull (A:=[_,_,_])).setObj 18 (.slice (some ⟨gg,0,none⟩) (A.length+1) c2)
    rw [←hwf,←hl1] at h
    have eV:(rgV g (.slice ao A.length cap)).setIfInBounds 18 (.slice (some ⟨gg,0,none⟩) (A++[(g.op,D.rep)]).length c2)=rgV g (.slice (some ⟨gg,0,none⟩) (A++[(g.op,D.rep)]).length c2):=by
     unfold rgV
     simp only [lA,lZ,lS]
    rw [eV] at h
    exact uH h
   clear hwf hgo hown S7 hl1 k4 k5 kz HK2 HOW HGG hglt c5 c6 c7 c8 c9 c10 c11 c12 c13 c14 c15 c16 c18 fz hp d22 d23 d24 d25 d26 d27 HR7 HN hz0 hz1 hz2 hi0 S6 hWe hQl HQh Hne
   ((have hC:=HC.out);clear HC;subst hC)
   (have hC:=HCT.out);clear HCT;subst hC
   obtain ⟨c0,c1,c2,c3,c4,c5,c6,c7,c8,c9,c10,c11,c12,c13,c14,c15,c16,c17,c18⟩:=rbox (show wf.heap[p]?=some (.cells (rgV g (.slice (some ⟨gg,0,none⟩) (A++[(g.op,D.rep)]).length c2)) 71 (0,0)) from S8.out.head)
   have fz:=(S8.out.a0b 0 rfl).2.2
   have hp:=(S8.out.a0b 0 rfl).1
   clear c0 c1 c2 c3 c4 c18
   go_wp2_with fail
   go_ret
   have S9:=(((((((((((((S8.out.setObj 17 (aB false)).setObj 5 (aI aK 0)).setObj 6 (aI aK 0)).setObj 7 (aI aK 0)).setObj 8 (aS ⟨#[]⟩)).setObj 9 (aS ⟨#[]⟩)).setObj 10 (aS ⟨#[]⟩)).setObj 11 (aS ⟨#[]⟩)).setObj 12 (aI aK 0)).setObj 13 (aI aK 0)).setObj 14 (aI aK 0)).setObj 15 (aB false)).setObj 16 (aI aK 0))
   have eV:((((((((((((((rgV g (.slice (some ⟨gg,0,none⟩) (A++[(g.op,D.rep)]).length c2)).setIfInBounds 17 (aB false)).setIfInBounds 5 (aI aK 0)).setIfInBounds 6 (aI aK 0)).setIfInBounds 7 (aI aK 0)).setIfInBounds 8 (aS ⟨#[]⟩)).setIfInBounds 9 (aS ⟨#[]⟩)).setIfInBounds 10 (aS ⟨#[]⟩)).setIfInBounds 11 (aS ⟨#[]⟩)).setIfInBounds 12 (aI aK 0)).setIfInBounds 13 (aI aK 0)).setIfInBounds 14 (aI aK 0)).setIfInBounds 15 (aB false)).setIfInBounds 16 (aI aK 0))=rgV { g with pend:=false,op:=rq0 } (.slice (some ⟨gg,0,none⟩) (A++[(g.op,D.rep)]).length c2):=by
    unfold rgV
    simp only [lA,lZ,lS]
    rfl
   rw [eV] at S9
   unfold g0s
   rw [Hyes.out.1,Hyes.out.2.1,Hyes.out.2.2,if_neg (by simp),←HD.out]
   exact ⟨some ⟨gg,0,none⟩,c2,(fun h=>(nomatch h)),((((S9.pull (A:=[_,_])).drop).pull (A:=[_,_])).drop),rfl⟩
 ·have e0b:(D.err==0)=false:=beq_eq_false_iff_ne.2 e0
  refine a0a fun C HC=>?_
  obtain ⟨d0,d1,d2,d3,d4,d5,d6,d7,d8,d9,d10,d11,d12,d13,d14,d15,d16,d17,d18,d19,d20,d21,d22,d23,d24,d25,d26,d27,d28,d29,d30,d31,d32,d33,d34,d35,d36⟩:=wbox HQh.out
  clear d0 d1 d2 d3 d4 d5 d6 d8 d9 d10 d11 d12 d13 d14 d15 d16 d17 d18 d19 d20 d21 d22 d23 d24 d25 d26 d27 d28 d29 d30 d31 d32 d33 d34 d35 d36
  go_wp2_with fail
  ((have hC:=HC.out);clear HC;subst hC)
  refine wp_cond_false rfl ?_
  clear d7 e0b
  obtain ⟨d0,d1,d2,d3,d4,d5,d6,d7,d8,d9,d10,d11,d12,d13,d14,d15,d16,d17,d18,d19,d20,d21,d22,d23,d24,d25,d26,d27,d28,d29,d30,d31,d32,d33,d34,d35,d36⟩:=wbox HQh.out
  clear d0 d1 d2 d3 d4 d5 d8 d9 d10 d11 d12 d13 d14 d15 d16 d17 d18 d19 d20 d21 d22 d23 d24 d25 d26 d27 d28 d29 d30 d31 d32 d33 d34 d35 d36
  have hp:=(S6.out.a0b 2 rfl).1
  obtain ⟨hb,hhb⟩:∃ hb,hb=b0w g.hosts D.host:=⟨_,rfl⟩
  have hisH:=s0z (S6.out.pull (A:=[_,_])) D.host Hhh.out
  rw [←hhb] at hisH
  have Hmv:Hid (i0j g DD=(decide (D.err=15)&&hb)):=by unfold i0j;rw [←HD.out,hhb];exact uH rfl
  have HI:=uH hisH
  have he0:DD.1.err≠0:=by rw [←HD.out];exact e0
  have He0:=uH he0
  have Hg:=uH (S6.out.drop.drop)
  clear hhb hisH he0 e0
  rcases bE (D.err==15) with a5 | a5
  rotate_left
  ·have hst:=g0y Hy.out He0.out (by rw [Hmv.out,decide_eq_false (beq_eq_false_iff_ne.1 a5)];rfl)
   have Hst:=uH hst
   clear hst
   refine a0a fun C HC=>?_
   go_wp2_with fail
   ((have hC:=HC.out);clear HC;subst hC)
   go_wp2_with fail
   (have hC:=HCT.out);clear HCT;subst hC
   go_wp2_with fail
   (have hR:=HR.out);clear HR;subst hR
   go_ret
   exact c0e Hst.out Hg.out
  cases hb with
  | false =>
   have hst:=g0y Hy.out He0.out (by rw [Hmv.out,Bool.and_false])
   have Hst:=uH hst
   clear hst
   refine a0a fun C HC=>?_
   go_wp2_with fail
   refine HI.out.mono ?_
   rintro e wk ⟨rfl,rfl⟩
   go_wp2_with fail
   ((have hC:=HC.out);clear HC;subst hC)
   go_wp2_with fail
   (have hC:=HCT.out);clear HCT;subst hC
   go_wp2_with fail
   (have hR:=HR.out);clear HR;subst hR
   go_ret
   exact c0e Hst.out Hg.out
  | true =>
   have hst:=m0k Hy.out He0.out (by rw [Hmv.out,decide_eq_true (beq_iff_eq.1 a5)];rfl)
   have Hst:=uH hst
   clear hst
   refine a0a fun C HC=>?_
   go_wp2_with fail
   refine HI.out.mono ?_
   rintro e wk ⟨rfl,rfl⟩
   go_wp2_with fail
   ((have hC:=HC.out);clear HC;subst hC)
   refine wp_cond_true rfl ?_
   refine a0d fun wf hwf=>?_
   rw [←hwf] at S6 We HQh
   have S7:=uH (S6.out.pull (A:=[_,_]))
   have Wf:=We
   clear hwf d6 d7 hp a5 S6 Hg We HI HQh
   have hQh:wf.heap[Q]?=some (.cells (wdV D (.slice mo D.mp.zs.length zc) (.slice dl D.data.length dc)) 49 (0,0)):=by rw [←HV.out];exact (S7.out.pull (A:=[_])).head
   obtain ⟨d0,d1,d2,d3,d4,d5,d6,d7,d8,d9,d10,d11,d12,d13,d14,d15,d16,d17,d18,d19,d20,d21,d22,d23,d24,d25,d26,d27,d28,d29,d30,d31,d32,d33,d34,d35,d36⟩:=wbox hQh
   have hQl:=lt_of_block hQh
   have hp:=(S7.out.a0b 0 rfl).1
   have hfz:=(S7.out.a0b 0 rfl).2.2
   obtain ⟨c0,c1,c2,c3,c4,c5,c6,c7,c8,c9,c10,c11,c12,c13,c14,c15,c16,c17,c18⟩:=rbox (show wf.heap[p]?=some (.cells (rgV g (.slice ao A.length cap)) 71 (0,0)) from S7.out.head)
   clear d0 d1 d2 d3 d4 d5 d7 d8 d9 d10 d11 d12 d13 d14 d15 d16 d17 d18 d19 d20 d21 d22 d23 d24 d25 d26 d27 d28 d29 d30 d31 d32 d33 d34 d35 d36 c0 c1 c2 c4 c17 c5 c6 c7 c8 c9 c10 c11 c12 c13 c14 c15 c16 c18 hQh
   obtain ⟨g1,hg1⟩:∃ g1:Gt,g1={ g with host:=D.host }:=⟨_,rfl⟩
   have hs8:=s0b (g1:=g1) 3 (aI aK D.host) (by rw [hg1];unfold rgV;simp only [lA,lZ,lS]) S7.out
   have Hs8:=uH hs8
   have hmy:mayO g1.op=true:=by rw [hg1];exact Hok.out.may (m0j Hy.out)
   have Hmy:=uH hmy
   have Hg1:=uH hg1
   clear hs8 hmy hg1
   go_wp2_with fail
   refine a0e fun wg hwg=>?_
   have S8:=Hs8.out
   rw [←hwg] at S8
   have hsz:w.heap.size≤wg.heap.size:=by rw [hwg];simp only [World.setCell,Array.size_modify];exact Wf.out.size
   have Hsz:=uH hsz
   have S8:=uH S8
   clear hwg hsz Hs8 S7 c3 d6 hp hfz hQl
   refine (call_r S8.out Hmy.out).mono ?_
   rintro e wh ⟨b,rfl,hS,hM⟩
   have S9:=uH hS
   have HM:=uH hM
   clear hS hM S8
   go_wp2_with fail
   (have hR:=HR.out);clear HR;subst hR
   go_ret
   have S10:=(((S9.out.pull (A:=[_])).drop).pull (A:=[_])).drop
   unfold g0s
   rw [Hst.out.1,Hst.out.2.1,Hst.out.2.2,List.append_nil,if_pos rfl,←HD.out]
   refine ⟨ao,cap,fun _=>⟨rfl,rfl⟩,?_,b,rfl,?_⟩
   ·have e:({ g with host:=D.host,wait:=4 }:Gt)={ g1 with wait:=4 }:=by rw [Hg1.out]
    rw [e]
    exact S10
   ·have h:=HM.out
    rw [Hg1.out] at h
    exact h
end Go.Proofs.YtogamdaomdoapaaGreat.G