/- Texts put together: GtN, GtC, GtH. -/
import Derived.Test.YtogamdaomdoapaaGreatGa04
import Derived.Test.YtogamdaomdoapaaGreatGa05
import Derived.Test.YtogamdaomdoapaaGreatGa09
import Derived.Test.YtogamdaomdoapaaGreatGa13
import Derived.Test.YtogamdaomdoapaaGreatGa25
import Derived.Test.YtogamdaomdoapaaGreatGa26
import Derived.Test.YtogamdaomdoapaaGreatGa38
import Derived.Deep.AppendLies
namespace Go.Proofs.YtogamdaomdoapaaGreat.G
open Go.Value renaming int→aI,string→aS,bool→aB
open Go.IntKind renaming i64→aK
open List renaming setIfInBounds_toArray→lA,set_cons_zero→lZ,set_cons_succ→lS
open Bool renaming eq_false_or_eq_true→bE
open Go.Lib renaming hid→uH
set_option maxRecDepth 20000
open Go.RowKit
def gtV (g:Gt) (av:Value):Array Value:=#[aI aK g.id,aI aK g.hosts,aI aK g.next,aI aK g.host,aI aK g.wait,aB g.pend,aI aK g.op.kind,aI aK g.op.client,aI aK g.op.seq,aS g.op.key,aS g.op.who,aS g.op.tkey,aS g.op.twho,aI aK g.op.item,aI aK g.op.count,aI aK g.op.price,aB g.op.buy,aI aK g.op.id,av]
structure GBox (w:World) (n:Nat) (g:Gt) (av:Value):Prop where
 c0:w.cell? ⟨n,0,none⟩=some (aI aK g.id)
 c1:w.cell? ⟨n,1,none⟩=some (aI aK g.hosts)
 c2:w.cell? ⟨n,2,none⟩=some (aI aK g.next)
 c3:w.cell? ⟨n,3,none⟩=some (aI aK g.host)
 c4:w.cell? ⟨n,4,none⟩=some (aI aK g.wait)
 c5:w.cell? ⟨n,5,none⟩=some (aB g.pend)
 c6:w.cell? ⟨n,6,none⟩=some (aI aK g.op.kind)
 c7:w.cell? ⟨n,7,none⟩=some (aI aK g.op.client)
 c8:w.cell? ⟨n,8,none⟩=some (aI aK g.op.seq)
 c9:w.cell? ⟨n,9,none⟩=some (aS g.op.key)
 c10:w.cell? ⟨n,10,none⟩=some (aS g.op.who)
 c11:w.cell? ⟨n,11,none⟩=some (aS g.op.tkey)
 c12:w.cell? ⟨n,12,none⟩=some (aS g.op.twho)
 c13:w.cell? ⟨n,13,none⟩=some (aI aK g.op.item)
 c14:w.cell? ⟨n,14,none⟩=some (aI aK g.op.count)
 c15:w.cell? ⟨n,15,none⟩=some (aI aK g.op.price)
 c16:w.cell? ⟨n,16,none⟩=some (aB g.op.buy)
 c17:w.cell? ⟨n,17,none⟩=some (aI aK g.op.id)
 c18:w.cell? ⟨n,18,none⟩=some (av)
theorem gbox {w:World} {n:Nat} {g:Gt} {av:Value} {t:TypeId} {fr:Nat × Nat} (h:w.heap[n]?=some (.cells (gtV g av) t fr)):GBox w n g av:=by
 have hc:∀ k,w.cell? ⟨n,k,none⟩=(gtV g av)[k]?:=fun k=>cell_of_row w n k _ _ _ h
 exact ⟨hc 0,hc 1,hc 2,hc 3,hc 4,hc 5,hc 6,hc 7,hc 8,hc 9,hc 10,hc 11,hc 12,hc 13,hc 14,hc 15,hc 16,hc 17,hc 18⟩
abbrev thG (p:Nat) (g:Gt) (av:Value):Th:=a0c p (.cells (gtV g av) 82 (0,0))
def n0x (w:World) (id hosts:Int) (e:Ending) (w':World):Prop :=
 if l0d id hosts=true then e=.returned (.tuple #[.pointer (some ⟨w.heap.size,0,none⟩),aI aK 0])∧w'=w.alloc (.cells (gtV (newG id hosts) (.slice none 0 0)) 82) else e=.returned (.tuple #[.pointer none,aI aK 1])∧w'=w
set_option maxHeartbeats 1000000 in
theorem x0c (id hosts:Int) (w:World):Calls Tryz.prog 7 #[aI aK id,aI aK hosts] w (n0x w id hosts):=by
 obtain ⟨r,hr⟩:∃ r,r=l0d id hosts:=⟨_,rfl⟩
 have HR:Hid (r=(!decide (id<32)&&!decide (36≤id)&&!decide (hosts<1)&&!decide (6<hosts))):=by
  rw [hr];unfold l0d;refine uH ?_;rw [Bool.eq_iff_iff];simp;omega
 unfold n0x
 rw [←hr]
 clear hr
 rcases bE (decide (id<32)) with t1 | t1
 ·have h0:r=false:=by rw [HR.out,t1];rfl
  subst h0
  go_enter Tryz.func7,Tryz.ntmps7
  go_wp2_with fail
  go_ret2
  exact ⟨rfl,rfl⟩
 rcases bE (decide (36≤id)) with t2 | t2
 ·have h0:r=false:=by rw [HR.out,t1,t2];rfl
  subst h0
  go_enter Tryz.func7,Tryz.ntmps7
  go_wp2_with fail
  go_ret2
  exact ⟨rfl,rfl⟩
 rcases bE (decide (hosts<1)) with t3 | t3
 ·have h0:r=false:=by rw [HR.out,t1,t2,t3];rfl
  subst h0
  go_enter Tryz.func7,Tryz.ntmps7
  go_wp2_with fail
  go_ret2
  exact ⟨rfl,rfl⟩
 rcases bE (decide (6<hosts)) with t4 | t4
 ·have h0:r=false:=by rw [HR.out,t1,t2,t3,t4];rfl
  subst h0
  go_enter Tryz.func7,Tryz.ntmps7
  go_wp2_with fail
  go_ret2
  exact ⟨rfl,rfl⟩
 have h0:r=true:=by rw [HR.out,t1,t2,t3,t4];rfl
 subst h0
 go_enter Tryz.func7,Tryz.ntmps7
 go_wp2_with fail
 go_ret2
 exact ⟨rfl,rfl⟩
theorem n0m {W w:World} {L:List Th} {p:Nat} {g:Gt} {av:Value} (S:St W w (thG p g av::L)) (n:Int) (h:1≤g.hosts∧g.hosts≤6):Calls Tryz.prog 26 #[.pointer (some ⟨p,0,none⟩),aI aK n] w fun e w'=>e=.returned (aB (b0w g.hosts n))∧w'=w:=by
 obtain ⟨c0,c1,c2,c3,c4,c5,c6,c7,c8,c9,c10,c11,c12,c13,c14,c15,c16,c17,c18⟩:=gbox (show w.heap[p]?=some (.cells (gtV g av) 82 (0,0)) from S.head)
 have hp:=(S.a0b 0 rfl).1
 obtain ⟨k,hk⟩:∃ k,k=g.hosts:=⟨_,rfl⟩
 rw [←hk] at c1 h ⊢
 unfold b0w
 clear c0 c2 c3 c4 c5 c6 c7 c8 c9 c10 c11 c12 c13 c14 c15 c16 c17 c18 S hk
 rcases bE (decide ((8:Int)≤n)) with t1 | t1
 ·rw [t1,Bool.true_and]
  go_enter Tryz.func26,Tryz.ntmps26
  go_wp2_with fail
  go_ret
  exact ⟨rfl,rfl⟩
 ·rw [t1,Bool.false_and]
  go_enter Tryz.func26,Tryz.ntmps26
  go_wp2_with fail
  go_ret
  exact ⟨rfl,rfl⟩
def lookO:Rq:=⟨5,0,0,⟨#[97]⟩,⟨#[98]⟩,e0,e0,0,0,0,false,0⟩
theorem look_any (w:World):Calls Tryz.prog 9 #[] w fun e w'=>e=.returned (.agg #[aI aK lookO.kind,aI aK lookO.client,aI aK lookO.seq,aS lookO.key,aS lookO.who,aS lookO.tkey,aS lookO.twho,aI aK lookO.item,aI aK lookO.count,aI aK lookO.price,aB lookO.buy,aI aK lookO.id])∧Below w.heap.size w w':=by
 go_enter Tryz.func9,Tryz.ntmps9
 go_wp2_with fail
 refine bodyPost_ret (v:=.agg #[aI aK lookO.kind,aI aK lookO.client,aI aK lookO.seq,aS lookO.key,aS lookO.who,aS lookO.tkey,aS lookO.twho,aI aK lookO.item,aI aK lookO.count,aI aK lookO.price,aB lookO.buy,aI aK lookO.id]) (by simp only [results,Tryz.results9];go_simp;exact ⟨rfl,rfl,rfl,rfl,rfl,rfl,rfl,rfl,rfl,rfl,rfl,rfl⟩) rfl ⟨rfl,bg⟩
end Go.Proofs.YtogamdaomdoapaaGreat.G
namespace Go.Proofs.YtogamdaomdoapaaGreat.G
open Go.Value renaming int→aI,string→aS,bool→aB
open Go.IntKind renaming i64→aK
open List renaming setIfInBounds_toArray→lA,set_cons_zero→lZ,set_cons_succ→lS
open Bool renaming eq_false_or_eq_true→bE
open Go.Lib renaming hid→uH
set_option maxRecDepth 20000
open Go.RowKit
theorem set_blkG {w:World} {Q o g x:Nat} {v:Value} (h:g≠Q):(w.setCell ⟨Q,o,none⟩ v).cell? ⟨g,x,none⟩=w.cell? ⟨g,x,none⟩ :=
 World.cell?_setCell_other w ⟨Q,o,none⟩ ⟨g,x,none⟩ v (fun e=>h (by simpa using (congrArg Addr.block e).symm))
theorem k0m {w:World} {Q o:Nat} {v:Value} {ao:Option Addr} {c:Nat} {l:List UInt8} (h:F.Sl w ao c l) (hg:0<l.length→∀ a,ao=some a→a.block≠Q):F.Sl (w.setCell ⟨Q,o,none⟩ v) ao c l :=
 ⟨h.le,h.cm,h.n0,fun hp=>by
  obtain ⟨b,x,e,hb,hr⟩:=h.at_ hp
  have hne:b≠Q:=hg hp _ e
  exact ⟨b,x,e,by simpa [World.setCell] using hb,fun i hi=>by rw [set_blkG hne];exact hr i hi⟩⟩
def j0l (n:Nat) (w:World) (b:Nat) (f t:Int) (l:List UInt8):Prop:=n≤b∧∃ ao cap,w.heap[b]?=some (.cells #[aI aK f,aI aK t,.slice ao l.length cap] 52 (0,0))∧F.Sl w ao cap l∧(0<l.length→∀ a,ao=some a→n≤a.block)
theorem j0l.grow {n:Nat} {w w':World} {b:Nat} {f t:Int} {l:List UInt8} (h:j0l n w b f t l) (hb:Below w.heap.size w w'):j0l n w' b f t l:=by
 obtain ⟨h0,ao,cap,h1,h2,h3⟩:=h
 exact ⟨h0,ao,cap,(hb.block b (lt_of_block h1)).trans h1,h2.grow hb,h3⟩
theorem j0l.set {n:Nat} {w:World} {b:Nat} {f t:Int} {l:List UInt8} (h:j0l n w b f t l) {p:Nat} (hp:p<n) (o:Nat) (v:Value):j0l n (w.setCell ⟨p,o,none⟩ v) b f t l:=by
 obtain ⟨h0,ao,cap,h1,h2,h3⟩:=h
 exact ⟨h0,ao,cap,(Below.heap_setCell _ _ _ _ (by show b≠p;omega)).trans h1,k0m h2 (fun hl a ha e=>by have:=h3 hl a ha;omega),h3⟩
theorem w0u {w:World} {base:Nat} {ao:Option Addr} {cap:Nat} {l:List UInt8} (h:OwnC w base ao cap l):0<l.length→∀ a,ao=some a→base≤a.block:=by
 intro _ a ha
 rcases h with ⟨h1,-⟩ | ⟨g,zs,h1,h2,-⟩
 ·rw [h1] at ha;cases ha
 ·rw [h1] at ha
  obtain rfl:=Option.some.inj ha
  exact h2
def CallPost (n:Nat) (W:World) (L:List Th) (p:Nat) (g:Gt) (av:Value) (e:Ending) (w':World):Prop:=∃ b,e=.returned (.slice (some ⟨b,0,none⟩) 1 1)∧St W w' (thG p { g with wait:=4 } av::L)∧j0l n w' b g.id g.host (encW (f0j g.op))
set_option maxHeartbeats 4000000 in
theorem call_g {W w:World} {L:List Th} {p:Nat} {g:Gt} {av:Value} (S0:St W w (thG p g av::L)) (hm:mayO g.op=true):Calls Tryz.prog 25 #[.pointer (some ⟨p,0,none⟩)] w (CallPost w.heap.size W L p g av):=by
 have S:=uH S0
 have hv:wdV (f0j g.op) (.slice none 0 0) (.slice none 0 0)=#[aI aK 5,aI aK 0,aI aK 0,aI aK 0,aI aK 0,aI aK 0,aI aK 0,aI aK 0,aS ⟨#[]⟩,aS ⟨#[]⟩,aI aK g.op.kind,aI aK g.op.client,aI aK g.op.seq,aS g.op.key,aS g.op.who,aS g.op.tkey,aS g.op.twho,aI aK g.op.item,aI aK g.op.count,aI aK g.op.price,aB g.op.buy,aI aK g.op.id,aI aK 0,aI aK 0,aI aK 0,aI aK 0,aI aK 0,aI aK 0,aI aK 0,aI aK 0,.slice none 0 0,aI aK 0,aI aK 0,aI aK 0,aI aK 0,aS ⟨#[]⟩,.slice none 0 0]:=rfl
 have hen:=fun w=>r0q (V:=wdV (f0j g.op) (.slice none 0 0) (.slice none 0 0)) rfl none none 0 0 rfl rfl w (fun h=>absurd h (by simp [f0j,mp0])) (d0p w) (l0q _)
 unfold t0i at hen
 simp only [p0t hm,if_true] at hen
 rw [hv] at hen
 obtain ⟨X,hX⟩:∃ X,X=encW (f0j g.op):=⟨_,rfl⟩
 rw [←hX] at hen
 have Hen:=uH hen
 have HX:=uH hX
 clear hv hen hX S0
 have hp:=(S.out.a0b 0 rfl).1
 have hfz:=(S.out.a0b 0 rfl).2.2
 obtain ⟨c0,c1,c2,c3,c4,c5,c6,c7,c8,c9,c10,c11,c12,c13,c14,c15,c16,c17,c18⟩:=gbox (show w.heap[p]?=some (.cells (gtV g av) 82 (0,0)) from S.out.head)
 clear c0 c1 c2 c3 c5 c18
 go_enter Tryz.func25,Tryz.ntmps25
 refine a0a fun C HC=>?_
 go_wp2_with fail
 ((have hC:=HC.out);clear HC;subst hC)
 refine a0a fun C HC=>?_
 go_wp2_with fail
 ((have hC:=HC.out);clear HC;subst hC)
 refine a0a fun C HC=>?_
 go_wp2_with fail
 refine a0e fun w1 hw1=>?_
 have hw1s:w1.heap.size=w.heap.size:=by rw [hw1];simp [World.setCell]
 obtain ⟨g1,hg1⟩:∃ g1:Gt,g1={ g with wait:=4 }:=⟨_,rfl⟩
 have S1:Hid (St W w1 (thG p g1 av::L)):=by
  have h:=S.out.setObj 4 (aI aK 4)
  rw [←hw1] at h
  have eV:(gtV g av).setIfInBounds 4 (aI aK 4)=gtV g1 av:=by
   rw [hg1]
   unfold gtV
   simp only [lA,lZ,lS]
  rw [eV] at h
  exact uH h
 have Hg1:=uH hg1
 clear hg1
 clear hw1 hfz hp c4 c6 c7 c8 c9 c10 c11 c12 c13 c14 c15 c16 c17 S
 refine (Hen.out w1).mono ?_
 rintro e w2 ⟨hb,ao,cap,rfl,ho⟩
 have Hb1:=uH hb.size
 have S2:=uH (S1.out.grow hb)
 have Ho:=uH ho.sl
 have Hof:Hid (0<X.length→∀ a,ao=some a→w.heap.size≤a.block):=uH (fun h1 a h2=>Nat.le_trans (by have:=hw1s;omega) (w0u ho h1 a h2))
 clear hb ho S1 Hen
 go_wp2_with fail
 ((have hC:=HC.out);clear HC;subst hC)
 refine a0a fun C HC=>?_
 go_wp2_with fail
 ((have hC:=HC.out);clear HC;subst hC)
 refine a0d fun w3 hw3=>?_
 rw [←hw3] at S2 Ho
 have Hsz:Hid (w.heap.size≤w3.heap.size):=uH (by rw [hw3,←hw1s];exact Hb1.out)
 clear hw3
 obtain ⟨c0,c1,c2,c3,c4,c5,c6,c7,c8,c9,c10,c11,c12,c13,c14,c15,c16,c17,c18⟩:=gbox (show w3.heap[p]?=some (.cells (gtV g1 av) 82 (0,0)) from S2.out.head)
 have hp:=(S2.out.a0b 0 rfl).1
 clear c1 c2 c4 c5 c6 c7 c8 c9 c10 c11 c12 c13 c14 c15 c16 c17 c18
 obtain ⟨k,hk⟩:∃ k,k=X.length:=⟨_,rfl⟩
 rw [←hk]
 have Hk:=uH hk
 clear hk
 refine wp_seq ?_
 go_region
 go_wp2_with fail
 go_ret
 refine ⟨_,rfl,?_,?_⟩
 ·rw [←Hg1.out]
  exact S2.out.grow bg
 ·rw [←HX.out]
  have hsz:=Hsz.out
  refine ⟨hsz,ao,cap,?_,Ho.out.grow bg,Hof.out⟩
  rw [←Hk.out]
  rw [show g1.id=g.id from by rw [Hg1.out],show g1.host=g.host from by rw [Hg1.out]]
  exact heap_alloc_new w3 _
def i0t (n:Nat) (W:World) (L:List Th) (p:Nat) (g:Gt) (av:Value) (e:Ending) (w':World):Prop:=St W w' (thG p (h0g g) av::L)∧if h0j g=true then ∃ b,e=.returned (.slice (some ⟨b,0,none⟩) 1 1)∧j0l n w' b g.id g.host (encW (f0j g.op)) else e=.returned (.slice none 0 0)
theorem s0d {g g1:Gt} {av:Value} (i:Nat) (v:Value) (h:(gtV g av).setIfInBounds i v=gtV g1 av) {W w:World} {L:List Th} {p:Nat} (S:St W w (thG p g av::L)):St W (w.setCell ⟨p,i,none⟩ v) (thG p g1 av::L):=by
 have h2:=S.setObj i v
 rw [h] at h2
 exact h2
set_option maxHeartbeats 4000000 in
theorem tick_g {W w:World} {L:List Th} {p:Nat} {g:Gt} {av:Value} (S0:St W w (thG p g av::L)) (hok:Ok g):Calls Tryz.prog 10 #[.pointer (some ⟨p,0,none⟩)] w (i0t w.heap.size W L p g av):=by
 have S:=uH S0
 have Hok:=uH hok
 clear S0 hok
 have hp:=(S.out.a0b 0 rfl).1
 have Hpn:=uH hp
 have hfz:=(S.out.a0b 0 rfl).2.2
 obtain ⟨c0,c1,c2,c3,c4,c5,c6,c7,c8,c9,c10,c11,c12,c13,c14,c15,c16,c17,c18⟩:=gbox (show w.heap[p]?=some (.cells (gtV g av) 82 (0,0)) from S.out.head)
 clear c0 c1 c2 c6 c7 c8 c9 c10 c11 c12 c13 c14 c15 c16 c17 c18
 cases hpd:g.pend with
 | false =>
  have e1:h0g g=g:=by unfold h0g;rw [hpd];rfl
  have e2:h0j g=false:=by unfold h0j;rw [hpd];rfl
  rw [hpd] at c5
  have H1:=uH (⟨e1,e2⟩:_∧_)
  clear e1 e2 hpd c3 c4
  go_enter Tryz.func10,Tryz.ntmps10
  go_wp2_with fail
  go_ret
  unfold i0t
  rw [H1.out.1,H1.out.2]
  exact ⟨S.out.grow bg,rfl⟩
 | true =>
  rw [hpd] at c5
  have hwb:=Hok.out.wait
  obtain ⟨k,hk⟩:∃ k,k=g.wait:=⟨_,rfl⟩
  rw [←hk] at c4 hwb
  by_cases hw:0<k
  ·obtain ⟨g1,hg1⟩:∃ g1:Gt,g1={ g with wait:=k - 1 }:=⟨_,rfl⟩
   have e1:h0g g=g1:=by unfold h0g;rw [if_pos hpd,←hk,if_pos hw,hg1]
   have e2:h0j g=false:=by unfold h0j;rw [hpd,←hk,decide_eq_false (by omega)];rfl
   have hw1:IntKind.i64.wrap (k - 1)=k - 1:=by rw [IntKind.wrap_i64];omega
   have S1:=uH (s0d (g1:=g1) 4 (aI aK (k - 1)) (by rw [hg1];unfold gtV;simp only [lA,lZ,lS]) S.out)
   have H1:=uH (⟨e1,e2⟩:_∧_)
   clear e1 e2 hpd c3 hg1 hk
   go_enter Tryz.func10,Tryz.ntmps10
   go_wp2_with fail
   go_ret
   unfold i0t
   rw [H1.out.1,H1.out.2]
   exact ⟨S1.out.grow bg,rfl⟩
  ·have hk0:k=0:=by omega
   subst hk0
   obtain ⟨g1,hg1⟩:∃ g1:Gt,g1={ g with wait:=4 }:=⟨_,rfl⟩
   obtain ⟨g2,hg2⟩:∃ g2:Gt,g2={ g with wait:=4,host:=g.host+1 }:=⟨_,rfl⟩
   obtain ⟨g3,hg3⟩:∃ g3:Gt,g3={ g with wait:=4,host:=8 }:=⟨_,rfl⟩
   have e1:h0g g=if b0w g.hosts (g.host+1)=true then g2 else g3:=by unfold h0g;rw [if_pos hpd,←hk,if_neg (by decide),hg2,hg3];unfold t0y;split<;>rfl
   have e2:h0j g=true:=by unfold h0j;rw [hpd,←hk];rfl
   have H1:=uH (⟨e1,e2⟩:_∧_)
   have hh:=Hok.out.host
   have hhs:=Hok.out.hosts
   have Hca:=uH (call_g S.out (Hok.out.may hpd))
   have Hs2:=uH (fun (wx:World) (hx:St W wx (thG p g1 av::L))=>s0d (g1:=g2) 3 (aI aK (g.host+1)) (by rw [hg1,hg2];unfold gtV;simp only [lA,lZ,lS]) hx)
   have Hs3:=uH (fun (wx:World) (hx:St W wx (thG p g2 av::L))=>s0d (g1:=g3) 3 (aI aK 8) (by rw [hg2,hg3];unfold gtV;simp only [lA,lZ,lS]) hx)
   obtain ⟨h,hh1⟩:∃ h,h=g.host:=⟨_,rfl⟩
   have Hh:Hid (g1.host=h∧g2.host=h+1∧g2.hosts=g.hosts):=by rw [hg1,hg2,hh1];exact uH ⟨rfl,rfl,rfl⟩
   have Hg1:=uH hg1
   rw [←hh1] at c3 hh Hs2 H1
   have hw1:IntKind.i64.wrap (h+1)=h+1:=by rw [IntKind.wrap_i64];omega
   have Hh1:=uH hh1
   clear e1 e2 hpd hg1 hg2 hg3 hk hh1 hwb hw
   go_enter Tryz.func10,Tryz.ntmps10
   go_wp2_with fail
   refine Hca.out.mono ?_
   rintro e w1 ⟨b,rfl,hS,hM⟩
   rw [←Hg1.out] at hS
   have S1:=uH hS
   have HM:=uH hM
   clear hS hM c3 c4 c5 hfz hp S Hca
   have hp:=(S1.out.a0b 0 rfl).1
   have hfz:=(S1.out.a0b 0 rfl).2.2
   obtain ⟨c0,c1,c2,c3,c4,c5,c6,c7,c8,c9,c10,c11,c12,c13,c14,c15,c16,c17,c18⟩:=gbox (show w1.heap[p]?=some (.cells (gtV g1 av) 82 (0,0)) from S1.out.head)
   rw [Hh.out.1] at c3
   clear c0 c1 c2 c4 c5 c6 c7 c8 c9 c10 c11 c12 c13 c14 c15 c16 c17 c18
   go_wp2_with fail
   refine a0e fun w2 hw2=>?_
   have hS2:=Hs2.out w1 S1.out
   have hM2:=HM.out.set Hpn.out 3 (aI aK (h+1))
   rw [←hw2] at hS2 hM2
   have S2:=uH hS2
   have HM:=uH hM2
   clear hS2 hM2 hw2 c3 hfz hp S1 Hs2
   have hgh:1≤g2.hosts∧g2.hosts≤6:=by rw [Hh.out.2.2];exact hhs
   have hih:=n0m S2.out (h+1) hgh
   rw [Hh.out.2.2] at hih
   obtain ⟨r,hr⟩:∃ r,r=b0w g.hosts (h+1):=⟨_,rfl⟩
   rw [←hr] at hih H1
   have Hih:=uH hih
   clear hih hr hgh
   cases r with
   | true =>
    refine Hih.out.mono ?_
    rintro e w3 ⟨rfl,rfl⟩
    go_wp2_with fail
    go_ret
    unfold i0t
    refine ⟨by rw [H1.out.1];(first | rw [if_pos rfl] | rw [if_pos trivial]);exact S2.out,?_⟩
    rw [H1.out.2,if_pos rfl]
    exact ⟨b,rfl,HM.out⟩
   | false =>
    refine Hih.out.mono ?_
    rintro e w3 ⟨rfl,rfl⟩
    have hp:=(S2.out.a0b 0 rfl).1
    have hfz:=(S2.out.a0b 0 rfl).2.2
    obtain ⟨c0,c1,c2,c3,c4,c5,c6,c7,c8,c9,c10,c11,c12,c13,c14,c15,c16,c17,c18⟩:=gbox (show w3.heap[p]?=some (.cells (gtV g2 av) 82 (0,0)) from S2.out.head)
    clear c0 c1 c2 c4 c5 c6 c7 c8 c9 c10 c11 c12 c13 c14 c15 c16 c17 c18
    go_wp2_with fail
    go_ret
    unfold i0t
    refine ⟨by rw [H1.out.1];rw [if_neg (by simp)];exact Hs3.out w3 S2.out,?_⟩
    rw [H1.out.2,if_pos rfl]
    exact ⟨b,rfl,HM.out.set Hpn.out 3 _⟩
end Go.Proofs.YtogamdaomdoapaaGreat.G
namespace Go.Proofs.YtogamdaomdoapaaGreat.G
open Go.Value renaming int→aI,string→aS,bool→aB
open Go.IntKind renaming i64→aK
open List renaming setIfInBounds_toArray→lA,set_cons_zero→lZ,set_cons_succ→lS
open Bool renaming eq_false_or_eq_true→bE
open Go.Lib renaming hid→uH
set_option maxRecDepth 20000
open Go.RowKit
def thA (base:Nat) (ao:Option Addr) (cap:Nat) (A:List An):Th:=c0f base 79 18 ao A.length cap (anR A)
def i0v (n:Nat) (W:World) (L:List Th) (p:Nat) (g:Gt) (a0:Option Addr) (c0:Nat) (A:List An) (f t:Int) (D:Wd × Int) (e:Ending) (w':World):Prop:=∃ ao cap,(h0v g f t D=true→ao=a0∧cap=c0)∧St W w' (thG p (h0w g f t D) (.slice ao (A++g0l g f t D).length cap)::thA W.heap.size ao cap (A++g0l g f t D)::L)∧if h0v g f t D=true then ∃ b,e=.returned (.slice (some ⟨b,0,none⟩) 1 1)∧j0l n w' b g.id D.1.host (encW (f0j g.op)) else e=.returned (.slice none 0 0)
def zz18:Array Value:=#[aI aK 0,aI aK 0,aI aK 0,aS ⟨#[]⟩,aS ⟨#[]⟩,aS ⟨#[]⟩,aS ⟨#[]⟩,aI aK 0,aI aK 0,aI aK 0,aB false,aI aK 0,aI aK 0,aI aK 0,aI aK 0,aI aK 0,aI aK 0,aI aK 0]
theorem y0y:(Tryz.prog.info? 79).map (fun i=>(i.zero,i.size,i.bytes))=some (some (.agg zz18),18,176):=by kernel_rfl
theorem r0m (a:An):∀ u∈anV a,u.oneCell'=true:=by
 intro u hu
 unfold anV at hu
 simp only [List.mem_cons,List.not_mem_nil,or_false] at hu
 rcases hu with rfl | rfl | rfl | rfl | rfl | rfl | rfl | rfl | rfl | rfl | rfl | rfl | rfl | rfl | rfl | rfl | rfl | rfl<;>rfl
theorem i0w {w:World} {base:Nat} {ao:Option Addr} {cap:Nat} {A:List An} (h:(thA base ao cap A).T w):w.ownsRow base 79 18 (.slice ao A.length cap) A.length (anR A):=h
theorem m0f {w:World} {base:Nat} {e:TypeId} {size n:Nat} {v:Value} {xs:List Value} (h:w.ownsRow base e size v n xs):w.drew.ownsRow base e size v n xs:=h
theorem m0i (w:World) (o:Obj) {w2:World} {ro:Option Addr} {n c:Nat} (hg:(w.alloc o).drew.grownBy w2 (Value.slice ro n c).ownBlock):Keeps w w2 (fun x=>∃ a,ro=some a∧a.block=x) :=
 Keeps.trans (f0v (a0p w o).drew (fun _=>False)) ((Keeps.grown hg).weak (T:=fun x=>∃ a,ro=some a∧a.block=x) (fun _ _ e=>d0k e.symm)) (fun _ h=>h.elim) (fun _ _ h=>h)
theorem d0g {n:Nat} {W w':World} {L:List Th} {p:Nat} {g:Gt} {A:List An} {f t:Int} {D:Wd × Int} {ao:Option Addr} {cap:Nat} (h:h0w g f t D=g∧g0l g f t D=[]∧h0v g f t D=false) (S:St W w' (thG p g (.slice ao A.length cap)::thA W.heap.size ao cap A::L)):i0v n W L p g ao cap A f t D (.returned (.slice none 0 0)) w':=by
 unfold i0v
 rw [h.1,h.2.1,h.2.2,List.append_nil]
 exact ⟨ao,cap,fun _=>⟨rfl,rfl⟩,S,rfl⟩
theorem j0l.weak {n m:Nat} {w:World} {b:Nat} {f t:Int} {l:List UInt8} (h:j0l n w b f t l) (hm:m≤n):j0l m w b f t l:=by
 obtain ⟨h0,ao,cap,h1,h2,h3⟩:=h
 exact ⟨Nat.le_trans hm h0,ao,cap,h1,h2,fun hl a ha=>Nat.le_trans hm (h3 hl a ha)⟩
theorem isHost_b {W w:World} {L:List Th} {p:Nat} {g:Gt} {av:Value} (S:St W w (thG p g av::L)) (n:Int) (h:1≤g.hosts∧g.hosts≤6):Calls Tryz.prog 26 #[.pointer (some ⟨p,0,none⟩),aI aK n] w fun e w'=>e=.returned (aB (b0w g.hosts n))∧Below w.heap.size w w' :=
 (n0m S n h).mono fun _ _ ⟨h1,h2⟩=>⟨h1,h2▸Below.refl _ _⟩
set_option maxHeartbeats 4000000 in
theorem hear_g {W w:World} {L:List Th} {p:Nat} {g:Gt} {ao:Option Addr} {cap:Nat} {A:List An} (S0:St W w (thG p g (.slice ao A.length cap)::thA W.heap.size ao cap A::L)) (hok:Ok g) (f t:Int) (bo:Option Addr) (bc:Nat) (l:List UInt8) (hl:F.Sl w bo bc l) (hlm:l.length≤140737488351232) (hs:∀ q,F.oneB l=(q,0)→SmW q) (hA:A.length≤1000) :
 Calls Tryz.prog 11 #[.pointer (some ⟨p,0,none⟩),.agg #[aI aK f,aI aK t,.slice bo l.length bc]] w (i0v w.heap.size W L p g ao cap A f t (d0e l)):=by
 have S:=uH S0
 have Hok:=uH hok
 have Hde:=uH (fun (w3:World) (hb:Below w.heap.size w w3)=>wdec_all bo bc l w3 (hl.grow hb) hlm hs)
 have hih:=hok.hosts
 have Hhh:=uH hok.hosts
 obtain ⟨DD,hDD⟩:∃ DD,DD=d0e l:=⟨_,rfl⟩
 rw [←hDD]
 have HDD:=uH hDD
 obtain ⟨n,hn⟩:∃ n,n=l.length:=⟨_,rfl⟩
 rw [←hn] at Hde ⊢
 clear S0 hok hl hlm hs hDD hn hih
 go_enter Tryz.func11,Tryz.ntmps11
 refine d0m fun R HR=>?_
 refine a0a fun C HC=>?_
 go_wp2_with fail
 refine a0d fun wa hwa=>?_
 obtain ⟨M,hM⟩:∃ M,M=w.heap.size:=⟨_,rfl⟩
 have S1:Hid (St W wa (a0c M (.cells #[aI aK f,aI aK t,.slice bo n bc] 52 (0,0))::thG p g (.slice ao A.length cap)::thA W.heap.size ao cap A::L)):=by rw [hwa];exact uH (S.out.objN _ M hM)
 have wa_b:Below w.heap.size w wa:=by rw [hwa];exact bg
 have Wa:=uH wa_b
 rw [←hM]
 clear hwa hM S wa_b
 ((have hC:=HC.out);clear HC;subst hC)
 refine a0a fun C HC=>?_
 obtain ⟨c0,c1,c2,c3,c4,c5,c6,c7,c8,c9,c10,c11,c12,c13,c14,c15,c16,c17,c18⟩:=gbox (show wa.heap[p]?=some (.cells (gtV g (.slice ao A.length cap)) 82 (0,0)) from (S1.out.pull (A:=[_])).head)
 obtain ⟨ml,mc,-⟩:=S1.out.a0b 0 rfl
 have hp:=(S1.out.a0b 1 rfl).1
 clear c1 c2 c3 c4 c6 c7 c8 c9 c10 c11 c12 c13 c14 c15 c16 c17 c18
 obtain ⟨pd,hpd⟩:∃ pd,pd=g.pend:=⟨_,rfl⟩
 obtain ⟨id,hid⟩:∃ id,id=g.id:=⟨_,rfl⟩
 obtain ⟨hb,hhb⟩:∃ hb,hb=b0w g.hosts f:=⟨_,rfl⟩
 have hisH:=fun (k:Gr wa)=>isHost_b ((S1.out.pull (A:=[_])).grow (a0f wa k)) f Hhh.out
 simp only [←hhb] at hisH
 rw [←hpd] at c5
 rw [←hid] at c0
 have Hfor:Hid (forB g f t=(pd&&decide (t=id)&&hb)):=by unfold forB;rw [hpd,hid,hhb];exact uH rfl
 have Hid2:=uH hid
 have HI:=uH hisH
 clear hpd hid hhb hisH
 have Hg:=uH ((S1.out.drop))
 cases pd with
 | false =>
  have hno:b0q g f t DD=false:=by unfold b0q;rw [Hfor.out];rfl
  have Hno:=uH (d0f hno)
  clear hno
  refine wp_seq ?_
  refine wp_seq ?_
  (refine grA ?_;(repeat (go_big_quiet_step (fail)));refine grN fun k=>?_)
  go_wp2_with fail
  (have hR:=HR.out);clear HR;subst hR
  go_ret
  exact d0g Hno.out (Hg.out.grow (a0f wa k))
 | true =>
 rcases bE (t==id) with t1 | t1
 rotate_left
 ·have t1n:(t != id)=true:=by rw [bne_iff_ne];rw [beq_eq_false_iff_ne] at t1;exact t1
  have hno:b0q g f t DD=false:=by unfold b0q;rw [Hfor.out,decide_eq_false (by rw [beq_eq_false_iff_ne] at t1;exact t1)];rfl
  have Hno:=uH (d0f hno)
  clear hno
  refine wp_seq ?_
  refine wp_seq ?_
  (refine grA ?_;(repeat (go_big_quiet_step (fail)));refine grN fun k=>?_)
  go_wp2_with fail
  (have hR:=HR.out);clear HR;subst hR
  go_ret
  exact d0g Hno.out (Hg.out.grow (a0f wa k))
 have t1n:(t != id)=false:=by rw [bne_eq_false_iff_eq];exact beq_iff_eq.1 t1
 cases hb with
 | false =>
  have hno:b0q g f t DD=false:=by unfold b0q;rw [Hfor.out,Bool.and_false];rfl
  have Hno:=uH (d0f hno)
  clear hno
  refine wp_seq ?_
  refine wp_seq ?_
  (refine grA ?_;(repeat (go_big_quiet_step ((go_at_call 26;exact a0i (HI.out _)))));refine grN fun k=>?_)
  go_wp2_with fail
  (have hR:=HR.out);clear HR;subst hR
  go_ret
  exact d0g Hno.out (Hg.out.grow (a0f wa k))
 | true =>
  have Hfor2:Hid (forB g f t=true):=by rw [Hfor.out,decide_eq_true (beq_iff_eq.1 t1)];exact uH rfl
  refine wp_seq ?_
  refine wp_seq ?_
  (refine grA ?_;(repeat (go_big_quiet_step ((go_at_call 26;exact a0i (HI.out _)))));refine grN fun k=>?_)
  go_wp2_with fail
  refine a0d fun wb hwb=>?_
  have hkb:Below wa.heap.size wa wb:=by rw [hwb];exact a0f wa k
  have S2:=uH (S1.out.grow hkb)
  have Wb:=uH (Wa.out.trans (hkb.mono Wa.out.size))
  clear hwb hkb S1 Hg HI Hfor c0 c5 ml mc hp t1 Wa
  ((have hC:=HC.out);clear HC;subst hC)
  refine a0a fun C HC=>?_
  obtain ⟨ml,mc,-⟩:=S2.out.a0b 0 rfl
  refine wp_seq ?_
  refine wp_region_lit ?_
  ((refine a0s 7 fun LL HL=>?_);simp only [List.take_succ_cons,List.take_zero,List.cons_append,List.nil_append];(go_wp2_with fail))
  refine (Hde.out wb Wb.out).mono ?_
  intro e wc hde
  obtain ⟨VX,mo,zc,dl,dc,hV,hsx,hox,rfl,hbb,-,-⟩:=p0p hde
  rw [←HDD.out] at hV
  rw [←HDD.out]
  obtain ⟨D,hD⟩:∃ D,D=DD.1:=⟨_,rfl⟩
  obtain ⟨c,hc⟩:∃ c,c=DD.2:=⟨_,rfl⟩
  rw [←hD] at hV
  rw [←hc]
  have Hm:Hid (b0q g f t DD=(decide (c=0)&&decide (D.kind=6)&&decide (D.op.kind=g.op.kind)&&decide (D.op.client=g.op.client)&&decide (D.op.seq=g.op.seq))):=by
   unfold b0q x0k
   rw [Hfor2.out,Bool.true_and,hD,hc]
   exact uH rfl
  have HD:=uH hD
  have HV:=uH hV
  have S3:=uH (S2.out.grow hbb)
  have Wc:=uH (Wb.out.trans (hbb.mono Wb.out.size))
  clear hde hbb S2 ml mc hD hc hV Hde Hfor2
  go_wp2_with fail
  refine b0l fun wn hwn=>?_
  obtain ⟨Q,hQ⟩:∃ Q,Q=wc.heap.size:=⟨_,rfl⟩
  have S4:Hid (St W wn (a0c Q (.cells #[aI aK 0,aI aK 0,aI aK 0,aI aK 0,aI aK 0,aI aK 0,aI aK 0,aI aK 0,aS ⟨#[]⟩,aS ⟨#[]⟩,aI aK 0,aI aK 0,aI aK 0,aS ⟨#[]⟩,aS ⟨#[]⟩,aS ⟨#[]⟩,aS ⟨#[]⟩,aI aK 0,aI aK 0,aI aK 0,aB false,aI aK 0,aI aK 0,aI aK 0,aI aK 0,aI aK 0,aI aK 0,aI aK 0,aI aK 0,aI aK 0,.slice none 0 0,aI aK 0,aI aK 0,aI aK 0,aI aK 0,aS ⟨#[]⟩,.slice none 0 0] 85 (0,0))::a0c M (.cells #[aI aK f,aI aK t,.slice bo n bc] 52 (0,0))::thG p g (.slice ao A.length cap)::thA W.heap.size ao cap A::L)):=by rw [hwn];exact uH (S3.out.objN _ Q hQ)
  have Wn:Hid (Below w.heap.size w wn):=by rw [hwn];exact uH (Wc.out.alloc Wc.out.size _)
  have HQw:Hid (w.heap.size≤Q):=by rw [hQ];exact uH Wc.out.size
  rw [←hQ]
  clear hwn hQ S3 Wc
  ((have hL:=HL.out);clear HL;subst hL;simp only [List.drop_succ_cons,List.drop_zero])
  refine wpList_store_row rfl 85 _ _ rfl Q VX rfl rfl 85 _ S4.out.head (by rw [hsx];kernel_rfl) (by rw [hsx];rfl) hox ?_
  have S5:=uH (S4.out.c0m VX)
  have Wo:=uH (below_setRow Wn.out HQw.out VX)
  clear S4 Wn
  refine b0l fun wd hwd=>?_
  rw [←hwd] at S5 Wo
  clear hwd
  go_wp2_with fail
  ((have hC:=HC.out);clear HC;subst hC)
  refine a0a fun C HC=>?_
  have hQh:wd.heap[Q]?=some (.cells (wdV D (.slice mo D.mp.zs.length zc) (.slice dl D.data.length dc)) 85 (0,0)):=by rw [←HV.out];exact S5.out.head
  have hQl:=lt_of_block hQh
  obtain ⟨d0,d1,d2,d3,d4,d5,d6,d7,d8,d9,d10,d11,d12,d13,d14,d15,d16,d17,d18,d19,d20,d21,d22,d23,d24,d25,d26,d27,d28,d29,d30,d31,d32,d33,d34,d35,d36⟩:=wbox hQh
  obtain ⟨c0,c1,c2,c3,c4,c5,c6,c7,c8,c9,c10,c11,c12,c13,c14,c15,c16,c17,c18⟩:=gbox (show wd.heap[p]?=some (.cells (gtV g (.slice ao A.length cap)) 82 (0,0)) from (S5.out.pull (A:=[_,_])).head)
  have hp:=(S5.out.a0b 2 rfl).1
  clear d1 d2 d3 d4 d5 d6 d7 d8 d9 d13 d14 d15 d16 d17 d18 d19 d20 d21 d22 d23 d24 d25 d26 d27 d28 d29 d30 d31 d32 d33 d34 d35 d36 c0 c1 c2 c3 c4 c5 c9 c10 c11 c12 c13 c14 c15 c16 c17 c18
  clear hQh
  have Hg:=uH (S5.out.drop.drop)
  rcases bE (c != 0) with a0 | a0
  ·((have hno:b0q g f t DD=false:=(by rw [bne_iff_ne] at a0;rw [Hm.out];simp [a0]));(have Hno:=uH (d0f hno));clear hno;(refine wp_seq ?_);(refine wp_seq ?_);(refine grA ?_;(repeat (go_big_quiet_step (fail)));refine grN fun k=>?_);(go_wp2_with fail);(have hR:=HR.out);clear HR;subst hR;go_ret;exact d0g Hno.out (Hg.out.grow (a0f wd k)))
  rcases bE (D.kind != 6) with a1 | a1
  ·((have hno:b0q g f t DD=false:=(by rw [bne_iff_ne] at a1;rw [Hm.out];simp [a1]));(have Hno:=uH (d0f hno));clear hno;(refine wp_seq ?_);(refine wp_seq ?_);(refine grA ?_;(repeat (go_big_quiet_step (fail)));refine grN fun k=>?_);(go_wp2_with fail);(have hR:=HR.out);clear HR;subst hR;go_ret;exact d0g Hno.out (Hg.out.grow (a0f wd k)))
  rcases bE (D.op.kind != g.op.kind) with a2 | a2
  ·((have hno:b0q g f t DD=false:=(by rw [bne_iff_ne] at a2;rw [Hm.out];simp [a2]));(have Hno:=uH (d0f hno));clear hno;(refine wp_seq ?_);(refine wp_seq ?_);(refine grA ?_;(repeat (go_big_quiet_step (fail)));refine grN fun k=>?_);(go_wp2_with fail);(have hR:=HR.out);clear HR;subst hR;go_ret;exact d0g Hno.out (Hg.out.grow (a0f wd k)))
  rcases bE (D.op.client != g.op.client) with a3 | a3
  ·((have hno:b0q g f t DD=false:=(by rw [bne_iff_ne] at a3;rw [Hm.out];simp [a3]));(have Hno:=uH (d0f hno));clear hno;(refine wp_seq ?_);(refine wp_seq ?_);(refine grA ?_;(repeat (go_big_quiet_step (fail)));refine grN fun k=>?_);(go_wp2_with fail);(have hR:=HR.out);clear HR;subst hR;go_ret;exact d0g Hno.out (Hg.out.grow (a0f wd k)))
  rcases bE (D.op.seq != g.op.seq) with a4 | a4
  ·((have hno:b0q g f t DD=false:=(by rw [bne_iff_ne] at a4;rw [Hm.out];simp [a4]));(have Hno:=uH (d0f hno));clear hno;(refine wp_seq ?_);(refine wp_seq ?_);(refine grA ?_;(repeat (go_big_quiet_step (fail)));refine grN fun k=>?_);(go_wp2_with fail);(have hR:=HR.out);clear HR;subst hR;go_ret;exact d0g Hno.out (Hg.out.grow (a0f wd k)))
  have hyes:b0q g f t DD=true:=by
   rw [bne_eq_false_iff_eq] at a0 a1 a2 a3 a4
   rw [Hm.out,a0,a1,a2,a3,a4]
   simp
  have Hy:=uH hyes
  clear hyes
  refine wp_seq ?_
  refine wp_seq ?_
  (refine grA ?_;(repeat (go_big_quiet_step (fail)));refine grN fun k=>?_)
  go_wp2_with fail
  refine a0d fun we hwe=>?_
  have hke:Below wd.heap.size wd we:=by rw [hwe];exact a0f wd k
  have S6:=uH (S5.out.grow hke)
  have We:=uH (Wo.out.trans (hke.mono Wo.out.size))
  clear hwe hke S5 Hg Hm a0 a1 a2 a3 a4 hp hQl d0 d10 d11 d12 c6 c7 c8 Wo
  ((have hC:=HC.out);clear HC;subst hC)
  refine a0a fun CT HCT=>?_
  refine wp_seq ?_
  refine wp_block ?_
  have hQh:we.heap[Q]?=some (.cells (wdV D (.slice mo D.mp.zs.length zc) (.slice dl D.data.length dc)) 85 (0,0)):=by rw [←HV.out];exact S6.out.head
  have hQl:=lt_of_block hQh
  have HQh:=uH hQh
  clear hQh
  by_cases e0:D.err=0
  ·have e0b:(D.err==0)=true:=beq_iff_eq.2 e0
   have hyes:=t0a Hy.out (by rw [←HD.out];exact e0)
   have Hyes:=uH hyes
   clear hyes
   refine a0a fun C HC=>?_
   obtain ⟨d0,d1,d2,d3,d4,d5,d6,d7,d8,d9,d10,d11,d12,d13,d14,d15,d16,d17,d18,d19,d20,d21,d22,d23,d24,d25,d26,d27,d28,d29,d30,d31,d32,d33,d34,d35,d36⟩:=wbox HQh.out
   clear d0 d1 d2 d3 d4 d5 d6 d8 d9 d10 d11 d12 d13 d14 d15 d16 d17 d18 d19 d20 d21 d22 d23 d24 d25 d26 d27 d28 d29 d30 d31 d32 d33 d34 d35 d36
   go_wp2_with fail
   ((have hC:=HC.out);clear HC;subst hC)
   refine wp_cond_true rfl ?_
   clear d7 e0b
   obtain ⟨i0,hi0,hz0,hz1,hz2⟩:=info_parts y0y
   obtain ⟨d0,d1,d2,d3,d4,d5,d6,d7,d8,d9,d10,d11,d12,d13,d14,d15,d16,d17,d18,d19,d20,d21,d22,d23,d24,d25,d26,d27,d28,d29,d30,d31,d32,d33,d34,d35,d36⟩:=wbox HQh.out
   clear d0 d1 d2 d3 d4 d5 d6 d7 d8 d9 d10 d11 d12 d13 d14 d15 d16 d17 d18 d19 d20 d21 d28 d29 d30 d31 d32 d33 d34 d35 d36
   obtain ⟨c0,c1,c2,c3,c4,c5,c6,c7,c8,c9,c10,c11,c12,c13,c14,c15,c16,c17,c18⟩:=gbox (show we.heap[p]?=some (.cells (gtV g (.slice ao A.length cap)) 82 (0,0)) from (S6.out.pull (A:=[_,_])).head)
   have fz:=(S6.out.a0b 2 rfl).2.2 18
   have hp:=(S6.out.a0b 2 rfl).1
   clear c0 c1 c2 c3 c4 c5
   have HR7:=uH (i0w (S6.out.pull (A:=[_,_,_])).head)
   have Hne:Hid (¬∃ a,ao=some a∧a.block=p):=uH (fun hx=>(S6.out.pull (A:=[_,_])).t.2.2.1 (thA W.heap.size ao cap A) (by simp) p rfl hx)
   have hWe:W.heap.size≤we.heap.size:=S6.out.b.size
   have HN:=uH (World.news_of_block (b0r we (.cells #[aI aK g.op.kind,aI aK g.op.client,aI aK g.op.seq,aS g.op.key,aS g.op.who,aS g.op.tkey,aS g.op.twho,aI aK g.op.item,aI aK g.op.count,aI aK g.op.price,aB g.op.buy,aI aK g.op.id,aI aK D.rep.err,aI aK D.rep.id,aI aK D.rep.i.a,aI aK D.rep.i.b,aI aK D.rep.i.c,aI aK D.rep.i.d] 79)))
   (have hR:=HR.out);clear HR;subst hR
   refine a0a fun C HC=>?_
   refine wp_seq ?_
   go_region_law (((refine step_append_lies _ rfl (.tmp 87) (.tmp 95) 55 rfl W.heap.size 79 i0 (.agg zz18) 18 176 Tryz.underlying55 hi0 hz0 hz1 hz2 rfl ?_ (.slice ao A.length cap) A.length (anR A) ?_ (m0f (HR7.out.alloc _)) ⟨we.heap.size,0,none⟩ 1 1 (anV (g.op,D.rep)) ?_ rfl HN.out (r0m _) ?_ ?_ ?_ ?_ (we.heap.size+1) ?_ ?_);(focus (decide));(focus (rfl));(focus (rfl));(focus (decide));(focus ((unfold maxLen);omega));(focus (omega));(focus first | (simp;done) | (simp;omega));(focus (simp;done));intro gg c2 w2 hown hgrow hg hglt;(have K2:Keeps we w2 (fun x=>∃ a,ao=some a∧a.block=x):=m0i we _ hgrow);(have k4:=(K2.cell (p:=⟨p,18,none⟩) hp (Hne.out)).trans c18);(have k5:=(K2.frozen (p:=⟨p,18,none⟩) hp (Hne.out)).trans fz);(have kz:=K2.size);(have HK2:=uH K2);(have HOW:=uH hown);(have HGG:=uH hg);clear hown hgrow hg K2))
   all_goals
    go_wp2_with fail
    refine a0d fun wf hwf=>?_
    have hgo:∀ x,(∃ a,some (⟨gg,0,none⟩:Addr)=some a∧a.block=x)→(thA W.heap.size ao cap A).F x∨we.heap.size≤x:=fun x hx=>by
     obtain ⟨a,ha,hx⟩:=hx
     obtain rfl:=Option.some.inj ha
     rcases HGG.out with h1 | h1
     ·obtain ⟨a',ha',hx'⟩:=d0k h1
      exact .inl ⟨a',ha',hx'.trans hx⟩
     ·exact .inr (by simp only at hx;omega)
    have hown:w2.ownsRow W.heap.size 79 18 (.slice (some ⟨gg,0,none⟩) (A++[(g.op,D.rep)]).length c2) (A++[(g.op,D.rep)]).length (anR (A++[(g.op,D.rep)])):=by
     rw [z0c,z0a,List.length_append]
     exact HOW.out
    have S7:=(S6.out.pull (A:=[_,_,_])).step HK2.out (thA W.heap.size (some ⟨gg,0,none⟩) c2 (A++[(g.op,D.rep)])) hown hgo
    have hl1:(A++[(g.op,D.rep)]).length=A.length+1:=by simp
    have S8:Hid (St W wf (thG p g (.slice (some ⟨gg,0,none⟩) (A++[(g.op,D.rep)]).length c2)::thA W.heap.size (some ⟨gg,0,none⟩) c2 (A++[(g.op,D.rep)])::a0c Q (.cells VX 85 (0,0))::a0c M (.cells #[aI aK f,aI aK t,.slice bo n bc] 52 (0,0))::L)):=by
     have h:=(S7.pull (A:=[_,_,_])).setObj 18 (.slice (some ⟨gg,0,none⟩) (A.length+1) c2)
     rw [←hwf,←hl1] at h
     have eV:(gtV g (.slice ao A.length cap)).setIfInBounds 18 (.slice (some ⟨gg,0,none⟩) (A++[(g.op,D.rep)]).length c2)=gtV g (.slice (some ⟨gg,0,none⟩) (A++[(g.op,D.rep)]).length c2):=by
      unfold gtV
      simp only [lA,lZ,lS]
     rw [eV] at h
     exact uH h
    clear hwf hgo hown S7 hl1 k4 k5 kz HK2 HOW HGG hglt c6 c7 c8 c9 c10 c11 c12 c13 c14 c15 c16 c17 c18 fz hp d22 d23 d24 d25 d26 d27 HR7 HN hz0 hz1 hz2 hi0 S6 hWe hQl HQh Hne
    ((have hC:=HC.out);clear HC;subst hC)
    (have hC:=HCT.out);clear HCT;subst hC
    obtain ⟨c0,c1,c2,c3,c4,c5,c6,c7,c8,c9,c10,c11,c12,c13,c14,c15,c16,c17,c18⟩:=gbox (show wf.heap[p]?=some (.cells (gtV g (.slice (some ⟨gg,0,none⟩) (A++[(g.op,D.rep)]).length c2)) 82 (0,0)) from S8.out.head)
    have fz:=(S8.out.a0b 0 rfl).2.2
    have hp:=(S8.out.a0b 0 rfl).1
    clear c0 c1 c2 c3 c4 c18
    go_wp2_with fail
    go_ret
    have S9:=(((((((((((((S8.out.setObj 5 (aB false)).setObj 6 (aI aK 0)).setObj 7 (aI aK 0)).setObj 8 (aI aK 0)).setObj 9 (aS ⟨#[]⟩)).setObj 10 (aS ⟨#[]⟩)).setObj 11 (aS ⟨#[]⟩)).setObj 12 (aS ⟨#[]⟩)).setObj 13 (aI aK 0)).setObj 14 (aI aK 0)).setObj 15 (aI aK 0)).setObj 16 (aB false)).setObj 17 (aI aK 0))
    have eV:((((((((((((((gtV g (.slice (some ⟨gg,0,none⟩) (A++[(g.op,D.rep)]).length c2)).setIfInBounds 5 (aB false)).setIfInBounds 6 (aI aK 0)).setIfInBounds 7 (aI aK 0)).setIfInBounds 8 (aI aK 0)).setIfInBounds 9 (aS ⟨#[]⟩)).setIfInBounds 10 (aS ⟨#[]⟩)).setIfInBounds 11 (aS ⟨#[]⟩)).setIfInBounds 12 (aS ⟨#[]⟩)).setIfInBounds 13 (aI aK 0)).setIfInBounds 14 (aI aK 0)).setIfInBounds 15 (aI aK 0)).setIfInBounds 16 (aB false)).setIfInBounds 17 (aI aK 0))=gtV { g with pend:=false,op:=rq0 } (.slice (some ⟨gg,0,none⟩) (A++[(g.op,D.rep)]).length c2):=by
     unfold gtV
     simp only [lA,lZ,lS]
     rfl
    rw [eV] at S9
    unfold i0v
    rw [Hyes.out.1,Hyes.out.2.1,Hyes.out.2.2,if_neg (by simp),←HD.out]
    exact ⟨some ⟨gg,0,none⟩,c2,(fun h=>(nomatch h)),((((S9.pull (A:=[_,_])).drop).pull (A:=[_,_])).drop),rfl⟩
  ·have e0b:(D.err==0)=false:=beq_eq_false_iff_ne.2 e0
   refine a0a fun C HC=>?_
   obtain ⟨d0,d1,d2,d3,d4,d5,d6,d7,d8,d9,d10,d11,d12,d13,d14,d15,d16,d17,d18,d19,d20,d21,d22,d23,d24,d25,d26,d27,d28,d29,d30,d31,d32,d33,d34,d35,d36⟩:=wbox HQh.out
   clear d0 d1 d2 d3 d4 d5 d6 d8 d9 d10 d11 d12 d13 d14 d15 d16 d17 d18 d19 d20 d21 d22 d23 d24 d25 d26 d27 d28 d29 d30 d31 d32 d33 d34 d35 d36
   go_wp2_with fail
   ((have hC:=HC.out);clear HC;subst hC)
   refine wp_cond_false rfl ?_
   clear d7 e0b
   obtain ⟨d0,d1,d2,d3,d4,d5,d6,d7,d8,d9,d10,d11,d12,d13,d14,d15,d16,d17,d18,d19,d20,d21,d22,d23,d24,d25,d26,d27,d28,d29,d30,d31,d32,d33,d34,d35,d36⟩:=wbox HQh.out
   clear d0 d1 d2 d3 d4 d5 d8 d9 d10 d11 d12 d13 d14 d15 d16 d17 d18 d19 d20 d21 d22 d23 d24 d25 d26 d27 d28 d29 d30 d31 d32 d33 d34 d35 d36
   have hp:=(S6.out.a0b 2 rfl).1
   obtain ⟨hb,hhb⟩:∃ hb,hb=b0w g.hosts D.host:=⟨_,rfl⟩
   have hisH:=n0m (S6.out.pull (A:=[_,_])) D.host Hhh.out
   rw [←hhb] at hisH
   have Hmv:Hid (i0j g DD=(decide (D.err=15)&&hb)):=by unfold i0j;rw [←HD.out,hhb];exact uH rfl
   have HI:=uH hisH
   have he0:DD.1.err≠0:=by rw [←HD.out];exact e0
   have He0:=uH he0
   have Hg:=uH (S6.out.drop.drop)
   clear hhb hisH he0 e0
   rcases bE (D.err==15) with a5 | a5
   rotate_left
   ·have hst:=g0y Hy.out He0.out (by rw [Hmv.out,decide_eq_false (beq_eq_false_iff_ne.1 a5)];rfl)
    have Hst:=uH hst
    clear hst
    refine a0a fun C HC=>?_
    go_wp2_with fail
    ((have hC:=HC.out);clear HC;subst hC)
    go_wp2_with fail
    (have hC:=HCT.out);clear HCT;subst hC
    go_wp2_with fail
    (have hR:=HR.out);clear HR;subst hR
    go_ret
    exact d0g Hst.out Hg.out
   cases hb with
   | false =>
    have hst:=g0y Hy.out He0.out (by rw [Hmv.out,Bool.and_false])
    have Hst:=uH hst
    clear hst
    refine a0a fun C HC=>?_
    go_wp2_with fail
    refine HI.out.mono ?_
    rintro e wk ⟨rfl,rfl⟩
    go_wp2_with fail
    ((have hC:=HC.out);clear HC;subst hC)
    go_wp2_with fail
    (have hC:=HCT.out);clear HCT;subst hC
    go_wp2_with fail
    (have hR:=HR.out);clear HR;subst hR
    go_ret
    exact d0g Hst.out Hg.out
   | true =>
    have hst:=m0k Hy.out He0.out (by rw [Hmv.out,decide_eq_true (beq_iff_eq.1 a5)];rfl)
    have Hst:=uH hst
    clear hst
    refine a0a fun C HC=>?_
    go_wp2_with fail
    refine HI.out.mono ?_
    rintro e wk ⟨rfl,rfl⟩
    go_wp2_with fail
    ((have hC:=HC.out);clear HC;subst hC)
    refine wp_cond_true rfl ?_
    refine a0d fun wf hwf=>?_
    rw [←hwf] at S6 We HQh
    have S7:=uH (S6.out.pull (A:=[_,_]))
    have Wf:=We
    clear hwf d6 d7 hp a5 S6 Hg We HI HQh
    have hQh:wf.heap[Q]?=some (.cells (wdV D (.slice mo D.mp.zs.length zc) (.slice dl D.data.length dc)) 85 (0,0)):=by rw [←HV.out];exact (S7.out.pull (A:=[_])).head
    obtain ⟨d0,d1,d2,d3,d4,d5,d6,d7,d8,d9,d10,d11,d12,d13,d14,d15,d16,d17,d18,d19,d20,d21,d22,d23,d24,d25,d26,d27,d28,d29,d30,d31,d32,d33,d34,d35,d36⟩:=wbox hQh
    have hQl:=lt_of_block hQh
    have hp:=(S7.out.a0b 0 rfl).1
    have hfz:=(S7.out.a0b 0 rfl).2.2
    obtain ⟨c0,c1,c2,c3,c4,c5,c6,c7,c8,c9,c10,c11,c12,c13,c14,c15,c16,c17,c18⟩:=gbox (show wf.heap[p]?=some (.cells (gtV g (.slice ao A.length cap)) 82 (0,0)) from S7.out.head)
    clear d0 d1 d2 d3 d4 d5 d7 d8 d9 d10 d11 d12 d13 d14 d15 d16 d17 d18 d19 d20 d21 d22 d23 d24 d25 d26 d27 d28 d29 d30 d31 d32 d33 d34 d35 d36 c0 c1 c2 c4 c5 c6 c7 c8 c9 c10 c11 c12 c13 c14 c15 c16 c17 c18 hQh
    obtain ⟨g1,hg1⟩:∃ g1:Gt,g1={ g with host:=D.host }:=⟨_,rfl⟩
    have hs8:=s0d (g1:=g1) 3 (aI aK D.host) (by rw [hg1];unfold gtV;simp only [lA,lZ,lS]) S7.out
    have Hs8:=uH hs8
    have hmy:mayO g1.op=true:=by rw [hg1];exact Hok.out.may (m0j Hy.out)
    have Hmy:=uH hmy
    have Hg1:=uH hg1
    clear hs8 hmy hg1
    go_wp2_with fail
    refine a0e fun wg hwg=>?_
    have S8:=Hs8.out
    rw [←hwg] at S8
    have hsz:w.heap.size≤wg.heap.size:=by rw [hwg];simp only [World.setCell,Array.size_modify];exact Wf.out.size
    have Hsz:=uH hsz
    have S8:=uH S8
    clear hwg hsz Hs8 S7 c3 d6 hp hfz hQl
    refine (call_g S8.out Hmy.out).mono ?_
    rintro e wh ⟨b,rfl,hS,hM⟩
    have S9:=uH hS
    have HM:=uH (hM.weak Hsz.out)
    clear hS hM S8
    go_wp2_with fail
    (have hR:=HR.out);clear HR;subst hR
    go_ret
    have S10:=(((S9.out.pull (A:=[_])).drop).pull (A:=[_])).drop
    unfold i0v
    rw [Hst.out.1,Hst.out.2.1,Hst.out.2.2,List.append_nil,if_pos rfl,←HD.out]
    refine ⟨ao,cap,fun _=>⟨rfl,rfl⟩,?_,b,rfl,?_⟩
    ·have e:({ g with host:=D.host,wait:=4 }:Gt)={ g1 with wait:=4 }:=by rw [Hg1.out]
     rw [e]
     exact S10
    ·have h:=HM.out
     rw [Hg1.out] at h
     exact h
end Go.Proofs.YtogamdaomdoapaaGreat.G