/- Texts put together: RtN, GtS, RtS. -/
import Derived.Test.YtogamdaomdoapaaGreatGa13
import Derived.Test.YtogamdaomdoapaaGreatGa23
import Derived.Test.YtogamdaomdoapaaGreatGa31
import Derived.Test.YtogamdaomdoapaaGreatGa39
namespace Go.Proofs.YtogamdaomdoapaaGreat.G
open Go.Value renaming int→aI,string→aS,bool→aB
open Go.IntKind renaming i64→aK
open List renaming setIfInBounds_toArray→lA,set_cons_zero→lZ,set_cons_succ→lS
open Bool renaming eq_false_or_eq_true→bE
open Go.Lib renaming hid→uH
set_option maxRecDepth 20000
open Go.RowKit
def rgV (g:Gt) (av:Value):Array Value:=#[aI aK g.id,aI aK g.hosts,aI aK g.next,aI aK g.host,aI aK g.wait,aI aK g.op.kind,aI aK g.op.client,aI aK g.op.seq,aS g.op.key,aS g.op.who,aS g.op.tkey,aS g.op.twho,aI aK g.op.item,aI aK g.op.count,aI aK g.op.price,aB g.op.buy,aI aK g.op.id,aB g.pend,av]
structure RBox (w:World) (n:Nat) (g:Gt) (av:Value):Prop where
 c0:w.cell? ⟨n,0,none⟩=some (aI aK g.id)
 c1:w.cell? ⟨n,1,none⟩=some (aI aK g.hosts)
 c2:w.cell? ⟨n,2,none⟩=some (aI aK g.next)
 c3:w.cell? ⟨n,3,none⟩=some (aI aK g.host)
 c4:w.cell? ⟨n,4,none⟩=some (aI aK g.wait)
 c5:w.cell? ⟨n,5,none⟩=some (aI aK g.op.kind)
 c6:w.cell? ⟨n,6,none⟩=some (aI aK g.op.client)
 c7:w.cell? ⟨n,7,none⟩=some (aI aK g.op.seq)
 c8:w.cell? ⟨n,8,none⟩=some (aS g.op.key)
 c9:w.cell? ⟨n,9,none⟩=some (aS g.op.who)
 c10:w.cell? ⟨n,10,none⟩=some (aS g.op.tkey)
 c11:w.cell? ⟨n,11,none⟩=some (aS g.op.twho)
 c12:w.cell? ⟨n,12,none⟩=some (aI aK g.op.item)
 c13:w.cell? ⟨n,13,none⟩=some (aI aK g.op.count)
 c14:w.cell? ⟨n,14,none⟩=some (aI aK g.op.price)
 c15:w.cell? ⟨n,15,none⟩=some (aB g.op.buy)
 c16:w.cell? ⟨n,16,none⟩=some (aI aK g.op.id)
 c17:w.cell? ⟨n,17,none⟩=some (aB g.pend)
 c18:w.cell? ⟨n,18,none⟩=some (av)
theorem rbox {w:World} {n:Nat} {g:Gt} {av:Value} {t:TypeId} {fr:Nat × Nat} (h:w.heap[n]?=some (.cells (rgV g av) t fr)):RBox w n g av:=by
 have hc:∀ k,w.cell? ⟨n,k,none⟩=(rgV g av)[k]?:=fun k=>cell_of_row w n k _ _ _ h
 exact ⟨hc 0,hc 1,hc 2,hc 3,hc 4,hc 5,hc 6,hc 7,hc 8,hc 9,hc 10,hc 11,hc 12,hc 13,hc 14,hc 15,hc 16,hc 17,hc 18⟩
abbrev thR (p:Nat) (g:Gt) (av:Value):Th:=a0c p (.cells (rgV g av) 71 (0,0))
def k0g (w:World) (id hosts:Int) (e:Ending) (w':World):Prop :=
 if l0d id hosts=true then e=.returned (.tuple #[.pointer (some ⟨w.heap.size,0,none⟩),aI aK 0])∧w'=w.alloc (.cells (rgV (newG id hosts) (.slice none 0 0)) 71) else e=.returned (.tuple #[.pointer none,aI aK 1])∧w'=w
set_option maxHeartbeats 1000000 in
theorem s0h (id hosts:Int) (w:World):Calls Tryz.prog 16 #[aI aK id,aI aK hosts] w (k0g w id hosts):=by
 obtain ⟨r,hr⟩:∃ r,r=l0d id hosts:=⟨_,rfl⟩
 have HR:Hid (r=(!decide (id<32)&&!decide (36≤id)&&!decide (hosts<1)&&!decide (6<hosts))):=by
  rw [hr];unfold l0d;refine uH ?_;rw [Bool.eq_iff_iff];simp;omega
 unfold k0g
 rw [←hr]
 clear hr
 rcases bE (decide (id<32)) with t1 | t1
 ·have h0:r=false:=by rw [HR.out,t1];rfl
  subst h0
  go_enter Tryz.func16,Tryz.ntmps16
  go_wp2_with fail
  go_ret2
  exact ⟨rfl,rfl⟩
 rcases bE (decide (36≤id)) with t2 | t2
 ·have h0:r=false:=by rw [HR.out,t1,t2];rfl
  subst h0
  go_enter Tryz.func16,Tryz.ntmps16
  go_wp2_with fail
  go_ret2
  exact ⟨rfl,rfl⟩
 rcases bE (decide (hosts<1)) with t3 | t3
 ·have h0:r=false:=by rw [HR.out,t1,t2,t3];rfl
  subst h0
  go_enter Tryz.func16,Tryz.ntmps16
  go_wp2_with fail
  go_ret2
  exact ⟨rfl,rfl⟩
 rcases bE (decide (6<hosts)) with t4 | t4
 ·have h0:r=false:=by rw [HR.out,t1,t2,t3,t4];rfl
  subst h0
  go_enter Tryz.func16,Tryz.ntmps16
  go_wp2_with fail
  go_ret2
  exact ⟨rfl,rfl⟩
 have h0:r=true:=by rw [HR.out,t1,t2,t3,t4];rfl
 subst h0
 go_enter Tryz.func16,Tryz.ntmps16
 go_wp2_with fail
 go_ret2
 exact ⟨rfl,rfl⟩
theorem s0z {W w:World} {L:List Th} {p:Nat} {g:Gt} {av:Value} (S:St W w (thR p g av::L)) (n:Int) (h:1≤g.hosts∧g.hosts≤6):Calls Tryz.prog 33 #[.pointer (some ⟨p,0,none⟩),aI aK n] w fun e w'=>e=.returned (aB (b0w g.hosts n))∧w'=w:=by
 obtain ⟨c0,c1,c2,c3,c4,c5,c6,c7,c8,c9,c10,c11,c12,c13,c14,c15,c16,c17,c18⟩:=rbox (show w.heap[p]?=some (.cells (rgV g av) 71 (0,0)) from S.head)
 have hp:=(S.a0b 0 rfl).1
 obtain ⟨k,hk⟩:∃ k,k=g.hosts:=⟨_,rfl⟩
 rw [←hk] at c1 h ⊢
 unfold b0w
 clear c0 c2 c3 c4 c17 c5 c6 c7 c8 c9 c10 c11 c12 c13 c14 c15 c16 c18 S hk
 rcases bE (decide ((8:Int)≤n)) with t1 | t1
 ·rw [t1,Bool.true_and]
  go_enter Tryz.func33,Tryz.ntmps33
  go_wp2_with fail
  go_ret
  exact ⟨rfl,rfl⟩
 ·rw [t1,Bool.false_and]
  go_enter Tryz.func33,Tryz.ntmps33
  go_wp2_with fail
  go_ret
  exact ⟨rfl,rfl⟩
end Go.Proofs.YtogamdaomdoapaaGreat.G
namespace Go.Proofs.YtogamdaomdoapaaGreat.G
open Go.Value renaming int→aI,string→aS,bool→aB
open Go.IntKind renaming i64→aK
open List renaming setIfInBounds_toArray→lA,set_cons_zero→lZ,set_cons_succ→lS
open Bool renaming eq_false_or_eq_true→bE
open Go.Lib renaming hid→uH
set_option maxRecDepth 20000
open Go.RowKit
def g0q (W:World) (L:List Th) (p:Nat) (g:Gt) (av:Value) (o:Rq) (e:Ending) (w':World):Prop:=e=.returned (.tuple #[.agg #[aI aK (subR g o).kind,aI aK (subR g o).client,aI aK (subR g o).seq,aS (subR g o).key,aS (subR g o).who,aS (subR g o).tkey,aS (subR g o).twho,aI aK (subR g o).item,aI aK (subR g o).count,aI aK (subR g o).price,aB (subR g o).buy,aI aK (subR g o).id],aI aK (subE g o)])∧St W w' (thG p (subG g o) av::L)
theorem j0n {g:Gt} {o:Rq} (h:c0t g o=false):subR g o=rq0∧subE g o=(if g.pend=true then 12 else 1)∧subG g o=g:=by
 have hf:¬c0t g o=true:=by rw [h];simp
 unfold subR subE subG
 exact ⟨if_neg hf,by rw [if_neg hf],if_neg hf⟩
theorem q0a {g:Gt} {o:Rq} (h:c0t g o=true):subR g o=askO g o∧subE g o=0∧subG g o={ g with op:=askO g o,pend:=true,wait:=0,next:=g.next+1 }:=by
 have hp:g.pend=false:=by unfold c0t at h;simp only [Bool.and_eq_true] at h;simpa using h.1.1
 unfold subR subE subG
 exact ⟨if_pos h,by rw [if_pos h,if_neg (by rw [hp];simp)],if_pos h⟩
set_option maxHeartbeats 4000000 in
theorem r0t {W w:World} {L:List Th} {p:Nat} {g:Gt} {av:Value} (S0:St W w (thG p g av::L)) (hok:Ok g) (o:Rq):Calls Tryz.prog 8 #[.pointer (some ⟨p,0,none⟩),.agg #[aI aK o.kind,aI aK o.client,aI aK o.seq,aS o.key,aS o.who,aS o.tkey,aS o.twho,aI aK o.item,aI aK o.count,aI aK o.price,aB o.buy,aI aK o.id]] w (g0q W L p g av o):=by
 have S:=uH S0
 have Hok:=uH hok
 clear S0 hok
 cases hpd:g.pend with
 | true =>
  have hno:c0t g o=false:=by unfold c0t;rw [hpd];rfl
  have h3:=j0n hno
  rw [if_pos hpd] at h3
  have Hno:=uH h3
  have hp:=(S.out.a0b 0 rfl).1
  obtain ⟨c0,c1,c2,c3,c4,c5,c6,c7,c8,c9,c10,c11,c12,c13,c14,c15,c16,c17,c18⟩:=gbox (show w.heap[p]?=some (.cells (gtV g av) 82 (0,0)) from S.out.head)
  rw [hpd] at c5
  clear hno h3 hpd c0 c1 c2 c3 c4 c6 c7 c8 c9 c10 c11 c12 c13 c14 c15 c16 c17 c18
  go_enter Tryz.func8,Tryz.ntmps8
  go_wp2_with fail
  ((refine bodyPost_ret (v:=.tuple #[.agg #[aI aK 0,aI aK 0,aI aK 0,aS ⟨#[]⟩,aS ⟨#[]⟩,aS ⟨#[]⟩,aS ⟨#[]⟩,aI aK 0,aI aK 0,aI aK 0,aB false,aI aK 0],aI aK 12]) (by simp only [results,Tryz.results8];go_simp) rfl ?_);(unfold g0q;rw [Hno.out.1,Hno.out.2.1,Hno.out.2.2];skip;exact ⟨rfl,S.out.grow bg⟩))
 | false =>
  obtain ⟨O,hO⟩:∃ O,O=w.heap.size:=⟨_,rfl⟩
  have hp:p<w.heap.size:=(S.out.a0b 0 rfl).1
  obtain ⟨q,hq⟩:∃ q,q=askO g o:=⟨_,rfl⟩
  have Hq:=uH hq
  have HO:=uH hO
  have HT:Hid (c0t g o=(!g.pend&&(!decide (q.kind<1)&&!decide (5<q.kind))&&mayO q)):=by
   rw [hq]
   unfold c0t
   have h1:decide (1≤o.kind)=!decide (o.kind<1):=by rw [Bool.eq_iff_iff];simp only [Bool.not_eq_true',decide_eq_true_eq,decide_eq_false_iff_not];omega
   have h2:decide (o.kind≤5)=!decide (5<o.kind):=by rw [Bool.eq_iff_iff];simp only [Bool.not_eq_true',decide_eq_true_eq,decide_eq_false_iff_not];omega
   rw [h1,h2]
   rfl
  have hi:=Hok.out.id
  have hn:=Hok.out.next
  have Hpd:=uH hpd
  clear hq
  obtain ⟨c0,c1,c2,c3,c4,c5,c6,c7,c8,c9,c10,c11,c12,c13,c14,c15,c16,c17,c18⟩:=gbox (show w.heap[p]?=some (.cells (gtV g av) 82 (0,0)) from S.out.head)
  rw [hpd] at c5
  clear hpd c0 c1 c2 c3 c4 c6 c7 c8 c9 c10 c11 c12 c13 c14 c15 c16 c17 c18
  go_enter Tryz.func8,Tryz.ntmps8
  refine a0a fun C HC=>?_
  go_wp2_with fail
  ((have hC:=HC.out);clear HC;subst hC)
  refine a0a fun C HC=>?_
  go_wp2_with fail
  ((have hC:=HC.out);clear HC;subst hC)
  refine a0a fun C HC=>?_
  go_wp2_with fail
  ((have hC:=HC.out);clear HC;subst hC)
  refine a0a fun C HC=>?_
  refine wp_seq ?_
  refine a0d fun wa hwa=>?_
  have S1:Hid (St W wa (a0c (O+1) (.cells #[aI aK 0,aI aK 0,aI aK 0,aS ⟨#[]⟩,aS ⟨#[]⟩,aS ⟨#[]⟩,aS ⟨#[]⟩,aI aK 0,aI aK 0,aI aK 0,aB false,aI aK 0] 30 (0,0))::a0c O (.cells #[aI aK o.kind,aI aK o.client,aI aK o.seq,aS o.key,aS o.who,aS o.tkey,aS o.twho,aI aK o.item,aI aK o.count,aI aK o.price,aB o.buy,aI aK o.id] 30 (0,0))::thG p g av::L)):=by
   rw [hwa]
   exact uH ((S.out.objN _ O hO).objN _ (O+1) (by rw [hO];simp))
  rw [←hO]
  have hOp:p<O:=by rw [hO];exact hp
  have wa_b:Below w.heap.size w wa:=by rw [hwa];exact bg
  clear hwa c5 hO hp
  obtain ⟨c0,c1,c2,c3,c4,c5,c6,c7,c8,c9,c10,c11,c12,c13,c14,c15,c16,c17,c18⟩:=gbox (show wa.heap[p]?=some (.cells (gtV g av) 82 (0,0)) from (S1.out.pull (A:=[_,_])).head)
  have hp:=(S1.out.a0b 2 rfl).1
  obtain ⟨ol,oc,ofz⟩:=S1.out.a0b 1 rfl
  have hne:¬O=p:=by omega
  have hne2:¬p=O:=by omega
  clear c1 c3 c4 c5 c6 c7 c8 c9 c10 c11 c12 c13 c14 c15 c16 c17 c18
  have hw1:IntKind.i64.wrap (g.id - 32)=g.id - 32:=by rw [IntKind.wrap_i64];omega
  have hw2:IntKind.i64.wrap (g.id - 32+1)=g.id - 32+1:=by rw [IntKind.wrap_i64];omega
  have hOw:=HO.out
  clear hOw
  go_region
  go_wp2_with fail
  refine a0d fun wb hwb=>?_
  have S2:Hid (St W wb (a0c (O+1) (.cells #[aI aK 0,aI aK 0,aI aK 0,aS ⟨#[]⟩,aS ⟨#[]⟩,aS ⟨#[]⟩,aS ⟨#[]⟩,aI aK 0,aI aK 0,aI aK 0,aB false,aI aK 0] 30 (0,0))::a0c O (.cells #[aI aK q.kind,aI aK q.client,aI aK q.seq,aS q.key,aS q.who,aS q.tkey,aS q.twho,aI aK q.item,aI aK q.count,aI aK q.price,aB q.buy,aI aK q.id] 30 (0,0))::thG p g av::L)):=by
   rw [hwb,Hq.out]
   exact uH ((((((S1.out.pull (A:=[_])).setObj 1 (aI aK (g.id - 32+1))).setObj 2 (aI aK g.next)).pull (A:=[_])).grow (Below.refl _ _).drew))
  have hOw:=HO.out
  have wb_b:Below w.heap.size w wb:=by rw [hwb];exact bg
  have Wb:=uH wb_b
  rw [Hpd.out] at HT
  clear hwb S1 ol oc ofz hne hne2 hw1 hw2 hi hn wa_b hp c0 c2 hOw wb_b
  ((have hC:=HC.out);clear HC;subst hC)
  obtain ⟨z1,z2,z3⟩:=S2.out.a0b 0 rfl
  obtain ⟨ol,oc,ofz⟩:=S2.out.a0b 1 rfl
  have hmc:=fun w=>h0t q w (mayO q) rfl
  obtain ⟨my,hmy⟩:∃ my,my=mayO q:=⟨_,rfl⟩
  rw [←hmy] at hmc HT
  have Hmc:=uH hmc
  clear hmc hmy
  rcases bE (decide (q.kind<1)) with t1 | t1
  ·(have hno:c0t g o=false:=(by rw [HT.out,t1];rfl));(have h3:=j0n hno);(rw [if_neg (by rw [Hpd.out];simp)] at h3);(have Hno:=uH h3);clear hno h3 HT
   (go_wp2_with fail);((refine bodyPost_ret (v:=.tuple #[.agg #[aI aK 0,aI aK 0,aI aK 0,aS ⟨#[]⟩,aS ⟨#[]⟩,aS ⟨#[]⟩,aS ⟨#[]⟩,aI aK 0,aI aK 0,aI aK 0,aB false,aI aK 0],aI aK 1]) (by simp only [results,Tryz.results8];go_simp) rfl ?_);(unfold g0q;rw [Hno.out.1,Hno.out.2.1,Hno.out.2.2];(have hOw:=HO.out);(have wb_b:=Wb.out);exact ⟨rfl,S.out.grow bg⟩))
  rcases bE (decide (5<q.kind)) with t2 | t2
  ·(have hno:c0t g o=false:=(by rw [HT.out,t1,t2];rfl));(have h3:=j0n hno);(rw [if_neg (by rw [Hpd.out];simp)] at h3);(have Hno:=uH h3);clear hno h3 HT
   (go_wp2_with fail);((refine bodyPost_ret (v:=.tuple #[.agg #[aI aK 0,aI aK 0,aI aK 0,aS ⟨#[]⟩,aS ⟨#[]⟩,aS ⟨#[]⟩,aS ⟨#[]⟩,aI aK 0,aI aK 0,aI aK 0,aB false,aI aK 0],aI aK 1]) (by simp only [results,Tryz.results8];go_simp) rfl ?_);(unfold g0q;rw [Hno.out.1,Hno.out.2.1,Hno.out.2.2];(have hOw:=HO.out);(have wb_b:=Wb.out);exact ⟨rfl,S.out.grow bg⟩))
  cases my with
  | false =>
   (have hno:c0t g o=false:=(by rw [HT.out,t1,t2];rfl));(have h3:=j0n hno);(rw [if_neg (by rw [Hpd.out];simp)] at h3);(have Hno:=uH h3);clear hno h3 HT
   refine a0a fun C HC=>?_
   go_wp2_with fail
   refine (Hmc.out _).mono ?_
   rintro e wc ⟨rfl,hb⟩
   have Wb:=uH (Wb.out.trans (hb.mono Wb.out.size))
   have S2:=uH (S2.out.grow hb)
   clear hb z1 z2 z3 ol oc ofz
   obtain ⟨z1,z2,z3⟩:=S2.out.a0b 0 rfl
   go_wp2_with fail
   ((have hC:=HC.out);clear HC;subst hC)
   (go_wp2_with fail);((refine bodyPost_ret (v:=.tuple #[.agg #[aI aK 0,aI aK 0,aI aK 0,aS ⟨#[]⟩,aS ⟨#[]⟩,aS ⟨#[]⟩,aS ⟨#[]⟩,aI aK 0,aI aK 0,aI aK 0,aB false,aI aK 0],aI aK 1]) (by simp only [results,Tryz.results8];go_simp) rfl ?_);(unfold g0q;rw [Hno.out.1,Hno.out.2.1,Hno.out.2.2];(have hOw:=HO.out);(have wb_b:=Wb.out);exact ⟨rfl,S.out.grow bg⟩))
  | true =>
   have h3:=q0a (g:=g) (o:=o) (by rw [HT.out,t1,t2];rfl)
   have Hyes:=uH h3
   clear h3 HT
   refine a0a fun C HC=>?_
   go_wp2_with fail
   refine (Hmc.out _).mono ?_
   rintro e wc ⟨rfl,hb⟩
   have S2:=uH (S2.out.grow hb)
   clear hb z1 z2 z3 ol oc ofz Wb Hmc t1 t2
   obtain ⟨ol,oc,ofz⟩:=S2.out.a0b 1 rfl
   obtain ⟨pl,-,pf⟩:=S2.out.a0b 2 rfl
   obtain ⟨c0,c1,c2,c3,c4,c5,c6,c7,c8,c9,c10,c11,c12,c13,c14,c15,c16,c17,c18⟩:=gbox (show wc.heap[p]?=some (.cells (gtV g av) 82 (0,0)) from (S2.out.pull (A:=[_,_])).head)
   go_wp2_with fail
   ((have hC:=HC.out);clear HC;subst hC)
   refine a0a fun C HC=>?_
   have hne:¬O=p:=by omega
   have hne2:¬p=O:=by omega
   clear c0 c1 c2 c3 c18
   go_wp2_with fail
   refine a0d fun wd hwd=>?_
   obtain ⟨g1,hg1⟩:∃ g1:Gt,g1={ g with op:=q,pend:=true,wait:=0 }:=⟨_,rfl⟩
   have S3:Hid (St W wd (thG p g1 av::a0c (O+1) (.cells #[aI aK 0,aI aK 0,aI aK 0,aS ⟨#[]⟩,aS ⟨#[]⟩,aS ⟨#[]⟩,aS ⟨#[]⟩,aI aK 0,aI aK 0,aI aK 0,aB false,aI aK 0] 30 (0,0))::a0c O (.cells #[aI aK q.kind,aI aK q.client,aI aK q.seq,aS q.key,aS q.who,aS q.tkey,aS q.twho,aI aK q.item,aI aK q.count,aI aK q.price,aB q.buy,aI aK q.id] 30 (0,0))::L)):=by
    have h:=(((((((((((((((S2.out.pull (A:=[_,_])).setObj 6 (aI aK q.kind)).setObj 7 (aI aK q.client)).setObj 8 (aI aK q.seq)).setObj 9 (aS q.key)).setObj 10 (aS q.who)).setObj 11 (aS q.tkey)).setObj 12 (aS q.twho)).setObj 13 (aI aK q.item)).setObj 14 (aI aK q.count)).setObj 15 (aI aK q.price)).setObj 16 (aB q.buy)).setObj 17 (aI aK q.id)).setObj 5 (aB true)).setObj 4 (aI aK 0))
    rw [←hwd] at h
    have eV:(((((((((((((((gtV g av).setIfInBounds 6 (aI aK q.kind)).setIfInBounds 7 (aI aK q.client)).setIfInBounds 8 (aI aK q.seq)).setIfInBounds 9 (aS q.key)).setIfInBounds 10 (aS q.who)).setIfInBounds 11 (aS q.tkey)).setIfInBounds 12 (aS q.twho)).setIfInBounds 13 (aI aK q.item)).setIfInBounds 14 (aI aK q.count)).setIfInBounds 15 (aI aK q.price)).setIfInBounds 16 (aB q.buy)).setIfInBounds 17 (aI aK q.id)).setIfInBounds 5 (aB true)).setIfInBounds 4 (aI aK 0))=gtV g1 av:=by
     rw [hg1]
     unfold gtV
     simp only [lA,lZ,lS]
    simp only [List.cons_append,List.nil_append] at h
    rw [eV] at h
    exact uH h
   have hnx:g1.next=g.next:=by rw [hg1]
   have hw3:IntKind.i64.wrap (g1.next+1)=g1.next+1:=by rw [IntKind.wrap_i64,hnx];have:=Hok.out.next;omega
   have Hg1:=uH hg1
   clear hwd S2 ol oc ofz pl pf c4 c5 c6 c7 c8 c9 c10 c11 c12 c13 c14 c15 c16 c17 hg1 hnx
   ((have hC:=HC.out);clear HC;subst hC)
   refine a0a fun C HC=>?_
   obtain ⟨pl,-,pf⟩:=S3.out.a0b 0 rfl
   obtain ⟨c0,c1,c2,c3,c4,c5,c6,c7,c8,c9,c10,c11,c12,c13,c14,c15,c16,c17,c18⟩:=gbox (show wd.heap[p]?=some (.cells (gtV g1 av) 82 (0,0)) from S3.out.head)
   clear c0 c1 c3 c4 c5 c6 c7 c8 c9 c10 c11 c12 c13 c14 c15 c16 c17 c18
   go_wp2_with fail
   refine a0d fun we hwe=>?_
   have S4:Hid (St W we (a0c (O+1) (.cells #[aI aK 0,aI aK 0,aI aK 0,aS ⟨#[]⟩,aS ⟨#[]⟩,aS ⟨#[]⟩,aS ⟨#[]⟩,aI aK 0,aI aK 0,aI aK 0,aB false,aI aK 0] 30 (0,0))::a0c O (.cells #[aI aK q.kind,aI aK q.client,aI aK q.seq,aS q.key,aS q.who,aS q.tkey,aS q.twho,aI aK q.item,aI aK q.count,aI aK q.price,aB q.buy,aI aK q.id] 30 (0,0))::thG p (subG g o) av::L)):=by
    have h:=S3.out.setObj 2 (aI aK (g1.next+1))
    rw [←hwe] at h
    rw [Hyes.out.2.2,←Hq.out]
    have e:(gtV g1 av).setIfInBounds 2 (aI aK (g1.next+1))=gtV { g with op:=q,pend:=true,wait:=0,next:=g.next+1 } av:=by
     rw [Hg1.out]
     unfold gtV
     simp only [lA,lZ,lS]
    rw [e] at h
    exact uH ((h.pull (A:=[_])).perm (List.Perm.cons _ (List.Perm.swap _ _ _)))
   clear hwe S3 pl pf c2 hw3
   ((have hC:=HC.out);clear HC;subst hC)
   obtain ⟨z1,z2,z3⟩:=S4.out.a0b 0 rfl
   obtain ⟨ol,oc,ofz⟩:=S4.out.a0b 1 rfl
   go_wp2_with fail
   have S5:=(((((((((((((S4.out.setObj 0 (aI aK q.kind)).setObj 1 (aI aK q.client)).setObj 2 (aI aK q.seq)).setObj 3 (aS q.key)).setObj 4 (aS q.who)).setObj 5 (aS q.tkey)).setObj 6 (aS q.twho)).setObj 7 (aI aK q.item)).setObj 8 (aI aK q.count)).setObj 9 (aI aK q.price)).setObj 10 (aB q.buy)).setObj 11 (aI aK q.id))).drop.drop
   refine bodyPost_ret (v:=.tuple #[.agg #[aI aK q.kind,aI aK q.client,aI aK q.seq,aS q.key,aS q.who,aS q.tkey,aS q.twho,aI aK q.item,aI aK q.count,aI aK q.price,aB q.buy,aI aK q.id],aI aK 0]) (by simp only [results,Tryz.results8];go_simp) rfl ?_
   unfold g0q
   rw [Hyes.out.1,Hyes.out.2.1,←Hq.out]
   exact ⟨rfl,S5⟩
end Go.Proofs.YtogamdaomdoapaaGreat.G
namespace Go.Proofs.YtogamdaomdoapaaGreat.G
open Go.Value renaming int→aI,string→aS,bool→aB
open Go.IntKind renaming i64→aK
open List renaming setIfInBounds_toArray→lA,set_cons_zero→lZ,set_cons_succ→lS
open Bool renaming eq_false_or_eq_true→bE
open Go.Lib renaming hid→uH
set_option maxRecDepth 20000
open Go.RowKit
def g0b (W:World) (L:List Th) (p:Nat) (g:Gt) (av:Value) (o:Rq) (e:Ending) (w':World):Prop:=e=.returned (.tuple #[.agg #[aI aK (subR g o).kind,aI aK (subR g o).client,aI aK (subR g o).seq,aS (subR g o).key,aS (subR g o).who,aS (subR g o).tkey,aS (subR g o).twho,aI aK (subR g o).item,aI aK (subR g o).count,aI aK (subR g o).price,aB (subR g o).buy,aI aK (subR g o).id],aI aK (subE g o)])∧St W w' (thR p (subG g o) av::L)
set_option maxHeartbeats 4000000 in
theorem submit_r {W w:World} {L:List Th} {p:Nat} {g:Gt} {av:Value} (S0:St W w (thR p g av::L)) (hok:Ok g) (o:Rq):Calls Tryz.prog 17 #[.pointer (some ⟨p,0,none⟩),.agg #[aI aK o.kind,aI aK o.client,aI aK o.seq,aS o.key,aS o.who,aS o.tkey,aS o.twho,aI aK o.item,aI aK o.count,aI aK o.price,aB o.buy,aI aK o.id]] w (g0b W L p g av o):=by
 have S:=uH S0
 have Hok:=uH hok
 clear S0 hok
 cases hpd:g.pend with
 | true =>
  have hno:c0t g o=false:=by unfold c0t;rw [hpd];rfl
  have h3:=j0n hno
  rw [if_pos hpd] at h3
  have Hno:=uH h3
  have hp:=(S.out.a0b 0 rfl).1
  obtain ⟨c0,c1,c2,c3,c4,c5,c6,c7,c8,c9,c10,c11,c12,c13,c14,c15,c16,c17,c18⟩:=rbox (show w.heap[p]?=some (.cells (rgV g av) 71 (0,0)) from S.out.head)
  rw [hpd] at c17
  clear hno h3 hpd c0 c1 c2 c3 c4 c5 c6 c7 c8 c9 c10 c11 c12 c13 c14 c15 c16 c18
  go_enter Tryz.func17,Tryz.ntmps17
  go_wp2_with fail
  ((refine bodyPost_ret (v:=.tuple #[.agg #[aI aK 0,aI aK 0,aI aK 0,aS ⟨#[]⟩,aS ⟨#[]⟩,aS ⟨#[]⟩,aS ⟨#[]⟩,aI aK 0,aI aK 0,aI aK 0,aB false,aI aK 0],aI aK 12]) (by simp only [results,Tryz.results17];go_simp) rfl ?_);(unfold g0b;rw [Hno.out.1,Hno.out.2.1,Hno.out.2.2];skip;exact ⟨rfl,S.out.grow bg⟩))
 | false =>
  obtain ⟨O,hO⟩:∃ O,O=w.heap.size:=⟨_,rfl⟩
  have hp:p<w.heap.size:=(S.out.a0b 0 rfl).1
  obtain ⟨q,hq⟩:∃ q,q=askO g o:=⟨_,rfl⟩
  have Hq:=uH hq
  have HO:=uH hO
  have HT:Hid (c0t g o=(!g.pend&&(!decide (q.kind<1)&&!decide (5<q.kind))&&mayO q)):=by
   rw [hq]
   unfold c0t
   have h1:decide (1≤o.kind)=!decide (o.kind<1):=by rw [Bool.eq_iff_iff];simp only [Bool.not_eq_true',decide_eq_true_eq,decide_eq_false_iff_not];omega
   have h2:decide (o.kind≤5)=!decide (5<o.kind):=by rw [Bool.eq_iff_iff];simp only [Bool.not_eq_true',decide_eq_true_eq,decide_eq_false_iff_not];omega
   rw [h1,h2]
   rfl
  have hi:=Hok.out.id
  have hn:=Hok.out.next
  have Hpd:=uH hpd
  clear hq
  obtain ⟨c0,c1,c2,c3,c4,c5,c6,c7,c8,c9,c10,c11,c12,c13,c14,c15,c16,c17,c18⟩:=rbox (show w.heap[p]?=some (.cells (rgV g av) 71 (0,0)) from S.out.head)
  rw [hpd] at c17
  clear hpd c0 c1 c2 c3 c4 c5 c6 c7 c8 c9 c10 c11 c12 c13 c14 c15 c16 c18
  go_enter Tryz.func17,Tryz.ntmps17
  refine a0a fun C HC=>?_
  go_wp2_with fail
  ((have hC:=HC.out);clear HC;subst hC)
  refine a0a fun C HC=>?_
  go_wp2_with fail
  ((have hC:=HC.out);clear HC;subst hC)
  refine a0a fun C HC=>?_
  refine wp_seq ?_
  refine a0d fun wa hwa=>?_
  have S1:Hid (St W wa (a0c (O+1) (.cells #[aI aK 0,aI aK 0,aI aK 0,aS ⟨#[]⟩,aS ⟨#[]⟩,aS ⟨#[]⟩,aS ⟨#[]⟩,aI aK 0,aI aK 0,aI aK 0,aB false,aI aK 0] 30 (0,0))::a0c O (.cells #[aI aK o.kind,aI aK o.client,aI aK o.seq,aS o.key,aS o.who,aS o.tkey,aS o.twho,aI aK o.item,aI aK o.count,aI aK o.price,aB o.buy,aI aK o.id] 30 (0,0))::thR p g av::L)):=by
   rw [hwa]
   exact uH ((S.out.objN _ O hO).objN _ (O+1) (by rw [hO];simp))
  rw [←hO]
  have hOp:p<O:=by rw [hO];exact hp
  have wa_b:Below w.heap.size w wa:=by rw [hwa];exact bg
  clear hwa c17 hO hp
  obtain ⟨c0,c1,c2,c3,c4,c5,c6,c7,c8,c9,c10,c11,c12,c13,c14,c15,c16,c17,c18⟩:=rbox (show wa.heap[p]?=some (.cells (rgV g av) 71 (0,0)) from (S1.out.pull (A:=[_,_])).head)
  have hp:=(S1.out.a0b 2 rfl).1
  obtain ⟨ol,oc,ofz⟩:=S1.out.a0b 1 rfl
  have hne:¬O=p:=by omega
  have hne2:¬p=O:=by omega
  clear c1 c3 c4 c17 c5 c6 c7 c8 c9 c10 c11 c12 c13 c14 c15 c16 c18
  have hw1:IntKind.i64.wrap (g.id - 32)=g.id - 32:=by rw [IntKind.wrap_i64];omega
  have hw2:IntKind.i64.wrap (g.id - 32+1)=g.id - 32+1:=by rw [IntKind.wrap_i64];omega
  have hOw:=HO.out
  clear hOw
  go_region
  go_wp2_with fail
  refine a0d fun wb hwb=>?_
  have S2:Hid (St W wb (a0c (O+1) (.cells #[aI aK 0,aI aK 0,aI aK 0,aS ⟨#[]⟩,aS ⟨#[]⟩,aS ⟨#[]⟩,aS ⟨#[]⟩,aI aK 0,aI aK 0,aI aK 0,aB false,aI aK 0] 30 (0,0))::a0c O (.cells #[aI aK q.kind,aI aK q.client,aI aK q.seq,aS q.key,aS q.who,aS q.tkey,aS q.twho,aI aK q.item,aI aK q.count,aI aK q.price,aB q.buy,aI aK q.id] 30 (0,0))::thR p g av::L)):=by
   rw [hwb,Hq.out]
   exact uH ((((((S1.out.pull (A:=[_])).setObj 1 (aI aK (g.id - 32+1))).setObj 2 (aI aK g.next)).pull (A:=[_])).grow (Below.refl _ _).drew))
  have hOw:=HO.out
  have wb_b:Below w.heap.size w wb:=by rw [hwb];exact bg
  have Wb:=uH wb_b
  rw [Hpd.out] at HT
  clear hwb S1 ol oc ofz hne hne2 hw1 hw2 hi hn wa_b hp c0 c2 hOw wb_b
  ((have hC:=HC.out);clear HC;subst hC)
  obtain ⟨z1,z2,z3⟩:=S2.out.a0b 0 rfl
  obtain ⟨ol,oc,ofz⟩:=S2.out.a0b 1 rfl
  have hmc:=fun w=>k0a q w (mayO q) rfl
  obtain ⟨my,hmy⟩:∃ my,my=mayO q:=⟨_,rfl⟩
  rw [←hmy] at hmc HT
  have Hmc:=uH hmc
  clear hmc hmy
  rcases bE (decide (q.kind<1)) with t1 | t1
  ·(have hno:c0t g o=false:=(by rw [HT.out,t1];rfl));(have h3:=j0n hno);(rw [if_neg (by rw [Hpd.out];simp)] at h3);(have Hno:=uH h3);clear hno h3 HT
   (go_wp2_with fail);((refine bodyPost_ret (v:=.tuple #[.agg #[aI aK 0,aI aK 0,aI aK 0,aS ⟨#[]⟩,aS ⟨#[]⟩,aS ⟨#[]⟩,aS ⟨#[]⟩,aI aK 0,aI aK 0,aI aK 0,aB false,aI aK 0],aI aK 1]) (by simp only [results,Tryz.results17];go_simp) rfl ?_);(unfold g0b;rw [Hno.out.1,Hno.out.2.1,Hno.out.2.2];(have hOw:=HO.out);(have wb_b:=Wb.out);exact ⟨rfl,S.out.grow bg⟩))
  rcases bE (decide (5<q.kind)) with t2 | t2
  ·(have hno:c0t g o=false:=(by rw [HT.out,t1,t2];rfl));(have h3:=j0n hno);(rw [if_neg (by rw [Hpd.out];simp)] at h3);(have Hno:=uH h3);clear hno h3 HT
   (go_wp2_with fail);((refine bodyPost_ret (v:=.tuple #[.agg #[aI aK 0,aI aK 0,aI aK 0,aS ⟨#[]⟩,aS ⟨#[]⟩,aS ⟨#[]⟩,aS ⟨#[]⟩,aI aK 0,aI aK 0,aI aK 0,aB false,aI aK 0],aI aK 1]) (by simp only [results,Tryz.results17];go_simp) rfl ?_);(unfold g0b;rw [Hno.out.1,Hno.out.2.1,Hno.out.2.2];(have hOw:=HO.out);(have wb_b:=Wb.out);exact ⟨rfl,S.out.grow bg⟩))
  cases my with
  | false =>
   (have hno:c0t g o=false:=(by rw [HT.out,t1,t2];rfl));(have h3:=j0n hno);(rw [if_neg (by rw [Hpd.out];simp)] at h3);(have Hno:=uH h3);clear hno h3 HT
   refine a0a fun C HC=>?_
   go_wp2_with fail
   refine (Hmc.out _).mono ?_
   rintro e wc ⟨rfl,hb⟩
   have Wb:=uH (Wb.out.trans (hb.mono Wb.out.size))
   have S2:=uH (S2.out.grow hb)
   clear hb z1 z2 z3 ol oc ofz
   obtain ⟨z1,z2,z3⟩:=S2.out.a0b 0 rfl
   go_wp2_with fail
   ((have hC:=HC.out);clear HC;subst hC)
   (go_wp2_with fail);((refine bodyPost_ret (v:=.tuple #[.agg #[aI aK 0,aI aK 0,aI aK 0,aS ⟨#[]⟩,aS ⟨#[]⟩,aS ⟨#[]⟩,aS ⟨#[]⟩,aI aK 0,aI aK 0,aI aK 0,aB false,aI aK 0],aI aK 1]) (by simp only [results,Tryz.results17];go_simp) rfl ?_);(unfold g0b;rw [Hno.out.1,Hno.out.2.1,Hno.out.2.2];(have hOw:=HO.out);(have wb_b:=Wb.out);exact ⟨rfl,S.out.grow bg⟩))
  | true =>
   have h3:=q0a (g:=g) (o:=o) (by rw [HT.out,t1,t2];rfl)
   have Hyes:=uH h3
   clear h3 HT
   refine a0a fun C HC=>?_
   go_wp2_with fail
   refine (Hmc.out _).mono ?_
   rintro e wc ⟨rfl,hb⟩
   have S2:=uH (S2.out.grow hb)
   clear hb z1 z2 z3 ol oc ofz Wb Hmc t1 t2
   obtain ⟨ol,oc,ofz⟩:=S2.out.a0b 1 rfl
   obtain ⟨pl,-,pf⟩:=S2.out.a0b 2 rfl
   obtain ⟨c0,c1,c2,c3,c4,c5,c6,c7,c8,c9,c10,c11,c12,c13,c14,c15,c16,c17,c18⟩:=rbox (show wc.heap[p]?=some (.cells (rgV g av) 71 (0,0)) from (S2.out.pull (A:=[_,_])).head)
   go_wp2_with fail
   ((have hC:=HC.out);clear HC;subst hC)
   refine a0a fun C HC=>?_
   have hne:¬O=p:=by omega
   have hne2:¬p=O:=by omega
   clear c0 c1 c2 c3 c18
   go_wp2_with fail
   refine a0d fun wd hwd=>?_
   obtain ⟨g1,hg1⟩:∃ g1:Gt,g1={ g with op:=q,pend:=true,wait:=0 }:=⟨_,rfl⟩
   have S3:Hid (St W wd (thR p g1 av::a0c (O+1) (.cells #[aI aK 0,aI aK 0,aI aK 0,aS ⟨#[]⟩,aS ⟨#[]⟩,aS ⟨#[]⟩,aS ⟨#[]⟩,aI aK 0,aI aK 0,aI aK 0,aB false,aI aK 0] 30 (0,0))::a0c O (.cells #[aI aK q.kind,aI aK q.client,aI aK q.seq,aS q.key,aS q.who,aS q.tkey,aS q.twho,aI aK q.item,aI aK q.count,aI aK q.price,aB q.buy,aI aK q.id] 30 (0,0))::L)):=by
    have h:=(((((((((((((((S2.out.pull (A:=[_,_])).setObj 5 (aI aK q.kind)).setObj 6 (aI aK q.client)).setObj 7 (aI aK q.seq)).setObj 8 (aS q.key)).setObj 9 (aS q.who)).setObj 10 (aS q.tkey)).setObj 11 (aS q.twho)).setObj 12 (aI aK q.item)).setObj 13 (aI aK q.count)).setObj 14 (aI aK q.price)).setObj 15 (aB q.buy)).setObj 16 (aI aK q.id)).setObj 17 (aB true)).setObj 4 (aI aK 0))
    rw [←hwd] at h
    have eV:(((((((((((((((rgV g av).setIfInBounds 5 (aI aK q.kind)).setIfInBounds 6 (aI aK q.client)).setIfInBounds 7 (aI aK q.seq)).setIfInBounds 8 (aS q.key)).setIfInBounds 9 (aS q.who)).setIfInBounds 10 (aS q.tkey)).setIfInBounds 11 (aS q.twho)).setIfInBounds 12 (aI aK q.item)).setIfInBounds 13 (aI aK q.count)).setIfInBounds 14 (aI aK q.price)).setIfInBounds 15 (aB q.buy)).setIfInBounds 16 (aI aK q.id)).setIfInBounds 17 (aB true)).setIfInBounds 4 (aI aK 0))=rgV g1 av:=by
     rw [hg1]
     unfold rgV
     simp only [lA,lZ,lS]
    simp only [List.cons_append,List.nil_append] at h
    rw [eV] at h
    exact uH h
   have hnx:g1.next=g.next:=by rw [hg1]
   have hw3:IntKind.i64.wrap (g1.next+1)=g1.next+1:=by rw [IntKind.wrap_i64,hnx];have:=Hok.out.next;omega
   have Hg1:=uH hg1
   clear hwd S2 ol oc ofz pl pf c4 c17 c5 c6 c7 c8 c9 c10 c11 c12 c13 c14 c15 c16 hg1 hnx
   ((have hC:=HC.out);clear HC;subst hC)
   refine a0a fun C HC=>?_
   obtain ⟨pl,-,pf⟩:=S3.out.a0b 0 rfl
   obtain ⟨c0,c1,c2,c3,c4,c5,c6,c7,c8,c9,c10,c11,c12,c13,c14,c15,c16,c17,c18⟩:=rbox (show wd.heap[p]?=some (.cells (rgV g1 av) 71 (0,0)) from S3.out.head)
   clear c0 c1 c3 c4 c17 c5 c6 c7 c8 c9 c10 c11 c12 c13 c14 c15 c16 c18
   go_wp2_with fail
   refine a0d fun we hwe=>?_
   have S4:Hid (St W we (a0c (O+1) (.cells #[aI aK 0,aI aK 0,aI aK 0,aS ⟨#[]⟩,aS ⟨#[]⟩,aS ⟨#[]⟩,aS ⟨#[]⟩,aI aK 0,aI aK 0,aI aK 0,aB false,aI aK 0] 30 (0,0))::a0c O (.cells #[aI aK q.kind,aI aK q.client,aI aK q.seq,aS q.key,aS q.who,aS q.tkey,aS q.twho,aI aK q.item,aI aK q.count,aI aK q.price,aB q.buy,aI aK q.id] 30 (0,0))::thR p (subG g o) av::L)):=by
    have h:=S3.out.setObj 2 (aI aK (g1.next+1))
    rw [←hwe] at h
    rw [Hyes.out.2.2,←Hq.out]
    have e:(rgV g1 av).setIfInBounds 2 (aI aK (g1.next+1))=rgV { g with op:=q,pend:=true,wait:=0,next:=g.next+1 } av:=by
     rw [Hg1.out]
     unfold rgV
     simp only [lA,lZ,lS]
    rw [e] at h
    exact uH ((h.pull (A:=[_])).perm (List.Perm.cons _ (List.Perm.swap _ _ _)))
   clear hwe S3 pl pf c2 hw3
   ((have hC:=HC.out);clear HC;subst hC)
   obtain ⟨z1,z2,z3⟩:=S4.out.a0b 0 rfl
   obtain ⟨ol,oc,ofz⟩:=S4.out.a0b 1 rfl
   go_wp2_with fail
   have S5:=(((((((((((((S4.out.setObj 0 (aI aK q.kind)).setObj 1 (aI aK q.client)).setObj 2 (aI aK q.seq)).setObj 3 (aS q.key)).setObj 4 (aS q.who)).setObj 5 (aS q.tkey)).setObj 6 (aS q.twho)).setObj 7 (aI aK q.item)).setObj 8 (aI aK q.count)).setObj 9 (aI aK q.price)).setObj 10 (aB q.buy)).setObj 11 (aI aK q.id))).drop.drop
   refine bodyPost_ret (v:=.tuple #[.agg #[aI aK q.kind,aI aK q.client,aI aK q.seq,aS q.key,aS q.who,aS q.tkey,aS q.twho,aI aK q.item,aI aK q.count,aI aK q.price,aB q.buy,aI aK q.id],aI aK 0]) (by simp only [results,Tryz.results17];go_simp) rfl ?_
   unfold g0b
   rw [Hyes.out.1,Hyes.out.2.1,←Hq.out]
   exact ⟨rfl,S5⟩
end Go.Proofs.YtogamdaomdoapaaGreat.G