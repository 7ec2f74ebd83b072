/- Texts put together: GtN, GtC. -/
import Derived.Test.YtogamdaomdoapaaGreatSa05
import Derived.Test.YtogamdaomdoapaaGreatSa07
import Derived.Test.YtogamdaomdoapaaGreatSa10
import Derived.Test.YtogamdaomdoapaaGreatSa16
import Derived.Test.YtogamdaomdoapaaGreatSa30
import Derived.Test.YtogamdaomdoapaaGreatSa31
namespace Go.Proofs.YtogamdaomdoapaaGreat.G
set_option maxRecDepth 20000
open Go.RowKit
def gtV (g:Gt) (av:Value):Array Value:=#[.int .i64 g.id,.int .i64 g.hosts,.int .i64 g.next,.int .i64 g.host,.int .i64 g.wait,.bool g.pend,.int .i64 g.op.kind,.int .i64 g.op.client,.int .i64 g.op.seq,.string g.op.key,.string g.op.who,.string g.op.tkey,.string g.op.twho,.int .i64 g.op.item,.int .i64 g.op.count,.int .i64 g.op.price,.bool g.op.buy,.int .i64 g.op.id,av]
structure GBox (w:World) (n:Nat) (g:Gt) (av:Value):Prop where
 c0:w.cell? ⟨n,0,none⟩=some (.int .i64 g.id)
 c1:w.cell? ⟨n,1,none⟩=some (.int .i64 g.hosts)
 c2:w.cell? ⟨n,2,none⟩=some (.int .i64 g.next)
 c3:w.cell? ⟨n,3,none⟩=some (.int .i64 g.host)
 c4:w.cell? ⟨n,4,none⟩=some (.int .i64 g.wait)
 c5:w.cell? ⟨n,5,none⟩=some (.bool g.pend)
 c6:w.cell? ⟨n,6,none⟩=some (.int .i64 g.op.kind)
 c7:w.cell? ⟨n,7,none⟩=some (.int .i64 g.op.client)
 c8:w.cell? ⟨n,8,none⟩=some (.int .i64 g.op.seq)
 c9:w.cell? ⟨n,9,none⟩=some (.string g.op.key)
 c10:w.cell? ⟨n,10,none⟩=some (.string g.op.who)
 c11:w.cell? ⟨n,11,none⟩=some (.string g.op.tkey)
 c12:w.cell? ⟨n,12,none⟩=some (.string g.op.twho)
 c13:w.cell? ⟨n,13,none⟩=some (.int .i64 g.op.item)
 c14:w.cell? ⟨n,14,none⟩=some (.int .i64 g.op.count)
 c15:w.cell? ⟨n,15,none⟩=some (.int .i64 g.op.price)
 c16:w.cell? ⟨n,16,none⟩=some (.bool g.op.buy)
 c17:w.cell? ⟨n,17,none⟩=some (.int .i64 g.op.id)
 c18:w.cell? ⟨n,18,none⟩=some (av)
theorem gbox {w:World} {n:Nat} {g:Gt} {av:Value} {t:TypeId} {fr:Nat × Nat} (h:w.heap[n]?=some (.cells (gtV g av) t fr)):GBox w n g av:=by
 have hc:∀ k,w.cell? ⟨n,k,none⟩=(gtV g av)[k]?:=fun k=>cell_of_row w n k _ _ _ h
 exact ⟨hc 0,hc 1,hc 2,hc 3,hc 4,hc 5,hc 6,hc 7,hc 8,hc 9,hc 10,hc 11,hc 12,hc 13,hc 14,hc 15,hc 16,hc 17,hc 18⟩
abbrev thG (p:Nat) (g:Gt) (av:Value):Th:=thObj p (.cells (gtV g av) 82 (0,0))
def NewPost (w:World) (id hosts:Int) (e:Ending) (w':World):Prop :=
 if newOk id hosts=true then e=.returned (.tuple #[.pointer (some ⟨w.heap.size,0,none⟩),.int .i64 0])∧w'=w.alloc (.cells (gtV (newG id hosts) (.slice none 0 0)) 82) else e=.returned (.tuple #[.pointer none,.int .i64 1])∧w'=w
set_option maxHeartbeats 1000000 in
theorem new_any (id hosts:Int) (w:World):Calls Tryz.prog 7 #[.int .i64 id,.int .i64 hosts] w (NewPost w id hosts):=by
 obtain ⟨r,hr⟩:∃ r,r=newOk id hosts:=⟨_,rfl⟩
 have HR:Hid (r=(!decide (id<32)&&!decide (36≤id)&&!decide (hosts<1)&&!decide (6<hosts))):=by
  rw [hr];unfold newOk;refine Lib.hid ?_;rw [Bool.eq_iff_iff];simp;omega
 unfold NewPost
 rw [←hr]
 clear hr
 rcases Bool.eq_false_or_eq_true (decide (id<32)) with t1 | t1
 ·have h0:r=false:=by rw [HR.out,t1];rfl
  subst h0
  go_enter Tryz.func7,Tryz.ntmps7
  go_wp2_with fail
  go_ret2
  exact ⟨rfl,rfl⟩
 rcases Bool.eq_false_or_eq_true (decide (36≤id)) with t2 | t2
 ·have h0:r=false:=by rw [HR.out,t1,t2];rfl
  subst h0
  go_enter Tryz.func7,Tryz.ntmps7
  go_wp2_with fail
  go_ret2
  exact ⟨rfl,rfl⟩
 rcases Bool.eq_false_or_eq_true (decide (hosts<1)) with t3 | t3
 ·have h0:r=false:=by rw [HR.out,t1,t2,t3];rfl
  subst h0
  go_enter Tryz.func7,Tryz.ntmps7
  go_wp2_with fail
  go_ret2
  exact ⟨rfl,rfl⟩
 rcases Bool.eq_false_or_eq_true (decide (6<hosts)) with t4 | t4
 ·have h0:r=false:=by rw [HR.out,t1,t2,t3,t4];rfl
  subst h0
  go_enter Tryz.func7,Tryz.ntmps7
  go_wp2_with fail
  go_ret2
  exact ⟨rfl,rfl⟩
 have h0:r=true:=by rw [HR.out,t1,t2,t3,t4];rfl
 subst h0
 go_enter Tryz.func7,Tryz.ntmps7
 go_wp2_with fail
 go_ret2
 exact ⟨rfl,rfl⟩
theorem isHost_g {W w:World} {L:List Th} {p:Nat} {g:Gt} {av:Value} (S:St W w (thG p g av::L)) (n:Int) (h:1≤g.hosts∧g.hosts≤6):Calls Tryz.prog 26 #[.pointer (some ⟨p,0,none⟩),.int .i64 n] w fun e w'=>e=.returned (.bool (isHostB g.hosts n))∧w'=w:=by
 obtain ⟨c0,c1,c2,c3,c4,c5,c6,c7,c8,c9,c10,c11,c12,c13,c14,c15,c16,c17,c18⟩:=gbox (show w.heap[p]?=some (.cells (gtV g av) 82 (0,0)) from S.head)
 have hp:=(S.cellsN 0 rfl).1
 obtain ⟨k,hk⟩:∃ k,k=g.hosts:=⟨_,rfl⟩
 rw [←hk] at c1 h ⊢
 unfold isHostB
 clear c0 c2 c3 c4 c5 c6 c7 c8 c9 c10 c11 c12 c13 c14 c15 c16 c17 c18 S hk
 rcases Bool.eq_false_or_eq_true (decide ((8:Int)≤n)) with t1 | t1
 ·rw [t1,Bool.true_and]
  go_enter Tryz.func26,Tryz.ntmps26
  go_wp2_with fail
  go_ret
  exact ⟨rfl,rfl⟩
 ·rw [t1,Bool.false_and]
  go_enter Tryz.func26,Tryz.ntmps26
  go_wp2_with fail
  go_ret
  exact ⟨rfl,rfl⟩
def lookO:Rq:=⟨5,0,0,⟨#[97]⟩,⟨#[98]⟩,e0,e0,0,0,0,false,0⟩
theorem look_any (w:World):Calls Tryz.prog 9 #[] w fun e w'=>e=.returned (.agg #[.int .i64 lookO.kind,.int .i64 lookO.client,.int .i64 lookO.seq,.string lookO.key,.string lookO.who,.string lookO.tkey,.string lookO.twho,.int .i64 lookO.item,.int .i64 lookO.count,.int .i64 lookO.price,.bool lookO.buy,.int .i64 lookO.id])∧Below w.heap.size w w':=by
 go_enter Tryz.func9,Tryz.ntmps9
 go_wp2_with fail
 refine bodyPost_ret (v:=.agg #[.int .i64 lookO.kind,.int .i64 lookO.client,.int .i64 lookO.seq,.string lookO.key,.string lookO.who,.string lookO.tkey,.string lookO.twho,.int .i64 lookO.item,.int .i64 lookO.count,.int .i64 lookO.price,.bool lookO.buy,.int .i64 lookO.id]) (by simp only [results,Tryz.results9];go_simp;exact ⟨rfl,rfl,rfl,rfl,rfl,rfl,rfl,rfl,rfl,rfl,rfl,rfl⟩) rfl ⟨rfl,bg⟩
end Go.Proofs.YtogamdaomdoapaaGreat.G
namespace Go.Proofs.YtogamdaomdoapaaGreat.G
set_option maxRecDepth 20000
open Go.RowKit
theorem set_blkG {w:World} {Q o g x:Nat} {v:Value} (h:g≠Q):(w.setCell ⟨Q,o,none⟩ v).cell? ⟨g,x,none⟩=w.cell? ⟨g,x,none⟩ :=
 World.cell?_setCell_other w ⟨Q,o,none⟩ ⟨g,x,none⟩ v (fun e=>h (by simpa using (congrArg Addr.block e).symm))
theorem sl_setG {w:World} {Q o:Nat} {v:Value} {ao:Option Addr} {c:Nat} {l:List UInt8} (h:F.Sl w ao c l) (hg:0<l.length→∀ a,ao=some a→a.block≠Q):F.Sl (w.setCell ⟨Q,o,none⟩ v) ao c l :=
 ⟨h.le,h.cm,h.n0,fun hp=>by
  obtain ⟨b,x,e,hb,hr⟩:=h.at_ hp
  have hne:b≠Q:=hg hp _ e
  exact ⟨b,x,e,by simpa [World.setCell] using hb,fun i hi=>by rw [set_blkG hne];exact hr i hi⟩⟩
def MsgAt (n:Nat) (w:World) (b:Nat) (f t:Int) (l:List UInt8):Prop:=n≤b∧∃ ao cap,w.heap[b]?=some (.cells #[.int .i64 f,.int .i64 t,.slice ao l.length cap] 52 (0,0))∧F.Sl w ao cap l∧(0<l.length→∀ a,ao=some a→n≤a.block)
theorem MsgAt.grow {n:Nat} {w w':World} {b:Nat} {f t:Int} {l:List UInt8} (h:MsgAt n w b f t l) (hb:Below w.heap.size w w'):MsgAt n w' b f t l:=by
 obtain ⟨h0,ao,cap,h1,h2,h3⟩:=h
 exact ⟨h0,ao,cap,(hb.block b (lt_of_block h1)).trans h1,h2.grow hb,h3⟩
theorem MsgAt.set {n:Nat} {w:World} {b:Nat} {f t:Int} {l:List UInt8} (h:MsgAt n w b f t l) {p:Nat} (hp:p<n) (o:Nat) (v:Value):MsgAt n (w.setCell ⟨p,o,none⟩ v) b f t l:=by
 obtain ⟨h0,ao,cap,h1,h2,h3⟩:=h
 exact ⟨h0,ao,cap,(Below.heap_setCell _ _ _ _ (by show b≠p;omega)).trans h1,sl_setG h2 (fun hl a ha e=>by have:=h3 hl a ha;omega),h3⟩
theorem ownC_from {w:World} {base:Nat} {ao:Option Addr} {cap:Nat} {l:List UInt8} (h:OwnC w base ao cap l):0<l.length→∀ a,ao=some a→base≤a.block:=by
 intro _ a ha
 rcases h with ⟨h1,-⟩ | ⟨g,zs,h1,h2,-⟩
 ·rw [h1] at ha;cases ha
 ·rw [h1] at ha
  obtain rfl:=Option.some.inj ha
  exact h2
def CallPost (n:Nat) (W:World) (L:List Th) (p:Nat) (g:Gt) (av:Value) (e:Ending) (w':World):Prop:=∃ b,e=.returned (.slice (some ⟨b,0,none⟩) 1 1)∧St W w' (thG p { g with wait:=4 } av::L)∧MsgAt n w' b g.id g.host (encW (callW g.op))
set_option maxHeartbeats 4000000 in
theorem call_g {W w:World} {L:List Th} {p:Nat} {g:Gt} {av:Value} (S0:St W w (thG p g av::L)) (hm:mayO g.op=true):Calls Tryz.prog 25 #[.pointer (some ⟨p,0,none⟩)] w (CallPost w.heap.size W L p g av):=by
 have S:=Lib.hid S0
 have hv:wdV (callW g.op) (.slice none 0 0) (.slice none 0 0)=#[.int .i64 5,.int .i64 0,.int .i64 0,.int .i64 0,.int .i64 0,.int .i64 0,.int .i64 0,.int .i64 0,.string ⟨#[]⟩,.string ⟨#[]⟩,.int .i64 g.op.kind,.int .i64 g.op.client,.int .i64 g.op.seq,.string g.op.key,.string g.op.who,.string g.op.tkey,.string g.op.twho,.int .i64 g.op.item,.int .i64 g.op.count,.int .i64 g.op.price,.bool g.op.buy,.int .i64 g.op.id,.int .i64 0,.int .i64 0,.int .i64 0,.int .i64 0,.int .i64 0,.int .i64 0,.int .i64 0,.int .i64 0,.slice none 0 0,.int .i64 0,.int .i64 0,.int .i64 0,.int .i64 0,.string ⟨#[]⟩,.slice none 0 0]:=rfl
 have hen:=fun w=>wenc_any (V:=wdV (callW g.op) (.slice none 0 0) (.slice none 0 0)) rfl none none 0 0 rfl rfl w (fun h=>absurd h (by simp [callW,mp0])) (sl_nil w) (callW_light _)
 unfold EncWPost at hen
 simp only [callW_may hm,if_true] at hen
 rw [hv] at hen
 obtain ⟨X,hX⟩:∃ X,X=encW (callW g.op):=⟨_,rfl⟩
 rw [←hX] at hen
 have Hen:=Lib.hid hen
 have HX:=Lib.hid hX
 clear hv hen hX S0
 have hp:=(S.out.cellsN 0 rfl).1
 have hfz:=(S.out.cellsN 0 rfl).2.2
 obtain ⟨c0,c1,c2,c3,c4,c5,c6,c7,c8,c9,c10,c11,c12,c13,c14,c15,c16,c17,c18⟩:=gbox (show w.heap[p]?=some (.cells (gtV g av) 82 (0,0)) from S.out.head)
 clear c0 c1 c2 c3 c5 c18
 go_enter Tryz.func25,Tryz.ntmps25
 refine wp_hold fun C HC=>?_
 go_wp2_with fail
 ((have hC:=HC.out);clear HC;subst hC)
 refine wp_hold fun C HC=>?_
 go_wp2_with fail
 ((have hC:=HC.out);clear HC;subst hC)
 refine wp_hold fun C HC=>?_
 go_wp2_with fail
 refine calls_name fun w1 hw1=>?_
 have hw1s:w1.heap.size=w.heap.size:=by rw [hw1];simp [World.setCell]
 obtain ⟨g1,hg1⟩:∃ g1:Gt,g1={ g with wait:=4 }:=⟨_,rfl⟩
 have S1:Hid (St W w1 (thG p g1 av::L)):=by
  have h:=S.out.setObj 4 (.int .i64 4)
  rw [←hw1] at h
  have eV:(gtV g av).setIfInBounds 4 (.int .i64 4)=gtV g1 av:=by
   rw [hg1]
   unfold gtV
   simp only [List.setIfInBounds_toArray,List.set_cons_zero,List.set_cons_succ]
  rw [eV] at h
  exact Lib.hid h
 have Hg1:=Lib.hid hg1
 clear hg1
 clear hw1 hfz hp c4 c6 c7 c8 c9 c10 c11 c12 c13 c14 c15 c16 c17 S
 refine (Hen.out w1).mono ?_
 rintro e w2 ⟨hb,ao,cap,rfl,ho⟩
 have Hb1:=Lib.hid hb.size
 have S2:=Lib.hid (S1.out.grow hb)
 have Ho:=Lib.hid ho.sl
 have Hof:Hid (0<X.length→∀ a,ao=some a→w.heap.size≤a.block):=Lib.hid (fun h1 a h2=>Nat.le_trans (by have:=hw1s;omega) (ownC_from ho h1 a h2))
 clear hb ho S1 Hen
 go_wp2_with fail
 ((have hC:=HC.out);clear HC;subst hC)
 refine wp_hold fun C HC=>?_
 go_wp2_with fail
 ((have hC:=HC.out);clear HC;subst hC)
 refine wp_name fun w3 hw3=>?_
 rw [←hw3] at S2 Ho
 have Hsz:Hid (w.heap.size≤w3.heap.size):=Lib.hid (by rw [hw3,←hw1s];exact Hb1.out)
 clear hw3
 obtain ⟨c0,c1,c2,c3,c4,c5,c6,c7,c8,c9,c10,c11,c12,c13,c14,c15,c16,c17,c18⟩:=gbox (show w3.heap[p]?=some (.cells (gtV g1 av) 82 (0,0)) from S2.out.head)
 have hp:=(S2.out.cellsN 0 rfl).1
 clear c1 c2 c4 c5 c6 c7 c8 c9 c10 c11 c12 c13 c14 c15 c16 c17 c18
 obtain ⟨k,hk⟩:∃ k,k=X.length:=⟨_,rfl⟩
 rw [←hk]
 have Hk:=Lib.hid hk
 clear hk
 refine wp_seq ?_
 go_region
 go_wp2_with fail
 go_ret
 refine ⟨_,rfl,?_,?_⟩
 ·rw [←Hg1.out]
  exact S2.out.grow bg
 ·rw [←HX.out]
  have hsz:=Hsz.out
  refine ⟨hsz,ao,cap,?_,Ho.out.grow bg,Hof.out⟩
  rw [←Hk.out]
  rw [show g1.id=g.id from by rw [Hg1.out],show g1.host=g.host from by rw [Hg1.out]]
  exact heap_alloc_new w3 _
def TickPost (n:Nat) (W:World) (L:List Th) (p:Nat) (g:Gt) (av:Value) (e:Ending) (w':World):Prop:=St W w' (thG p (tickG g) av::L)∧if saysB g=true then ∃ b,e=.returned (.slice (some ⟨b,0,none⟩) 1 1)∧MsgAt n w' b g.id g.host (encW (callW g.op)) else e=.returned (.slice none 0 0)
theorem set_gt {g g1:Gt} {av:Value} (i:Nat) (v:Value) (h:(gtV g av).setIfInBounds i v=gtV g1 av) {W w:World} {L:List Th} {p:Nat} (S:St W w (thG p g av::L)):St W (w.setCell ⟨p,i,none⟩ v) (thG p g1 av::L):=by
 have h2:=S.setObj i v
 rw [h] at h2
 exact h2
set_option maxHeartbeats 4000000 in
theorem tick_g {W w:World} {L:List Th} {p:Nat} {g:Gt} {av:Value} (S0:St W w (thG p g av::L)) (hok:Ok g):Calls Tryz.prog 10 #[.pointer (some ⟨p,0,none⟩)] w (TickPost w.heap.size W L p g av):=by
 have S:=Lib.hid S0
 have Hok:=Lib.hid hok
 clear S0 hok
 have hp:=(S.out.cellsN 0 rfl).1
 have Hpn:=Lib.hid hp
 have hfz:=(S.out.cellsN 0 rfl).2.2
 obtain ⟨c0,c1,c2,c3,c4,c5,c6,c7,c8,c9,c10,c11,c12,c13,c14,c15,c16,c17,c18⟩:=gbox (show w.heap[p]?=some (.cells (gtV g av) 82 (0,0)) from S.out.head)
 clear c0 c1 c2 c6 c7 c8 c9 c10 c11 c12 c13 c14 c15 c16 c17 c18
 cases hpd:g.pend with
 | false =>
  have e1:tickG g=g:=by unfold tickG;rw [hpd];rfl
  have e2:saysB g=false:=by unfold saysB;rw [hpd];rfl
  rw [hpd] at c5
  have H1:=Lib.hid (⟨e1,e2⟩:_∧_)
  clear e1 e2 hpd c3 c4
  go_enter Tryz.func10,Tryz.ntmps10
  go_wp2_with fail
  go_ret
  unfold TickPost
  rw [H1.out.1,H1.out.2]
  exact ⟨S.out.grow bg,rfl⟩
 | true =>
  rw [hpd] at c5
  have hwb:=Hok.out.wait
  obtain ⟨k,hk⟩:∃ k,k=g.wait:=⟨_,rfl⟩
  rw [←hk] at c4 hwb
  by_cases hw:0<k
  ·obtain ⟨g1,hg1⟩:∃ g1:Gt,g1={ g with wait:=k - 1 }:=⟨_,rfl⟩
   have e1:tickG g=g1:=by unfold tickG;rw [if_pos hpd,←hk,if_pos hw,hg1]
   have e2:saysB g=false:=by unfold saysB;rw [hpd,←hk,decide_eq_false (by omega)];rfl
   have hw1:IntKind.i64.wrap (k - 1)=k - 1:=by rw [IntKind.wrap_i64];omega
   have S1:=Lib.hid (set_gt (g1:=g1) 4 (.int .i64 (k - 1)) (by rw [hg1];unfold gtV;simp only [List.setIfInBounds_toArray,List.set_cons_zero,List.set_cons_succ]) S.out)
   have H1:=Lib.hid (⟨e1,e2⟩:_∧_)
   clear e1 e2 hpd c3 hg1 hk
   go_enter Tryz.func10,Tryz.ntmps10
   go_wp2_with fail
   go_ret
   unfold TickPost
   rw [H1.out.1,H1.out.2]
   exact ⟨S1.out.grow bg,rfl⟩
  ·have hk0:k=0:=by omega
   subst hk0
   obtain ⟨g1,hg1⟩:∃ g1:Gt,g1={ g with wait:=4 }:=⟨_,rfl⟩
   obtain ⟨g2,hg2⟩:∃ g2:Gt,g2={ g with wait:=4,host:=g.host+1 }:=⟨_,rfl⟩
   obtain ⟨g3,hg3⟩:∃ g3:Gt,g3={ g with wait:=4,host:=8 }:=⟨_,rfl⟩
   have e1:tickG g=if isHostB g.hosts (g.host+1)=true then g2 else g3:=by unfold tickG;rw [if_pos hpd,←hk,if_neg (by decide),hg2,hg3];unfold nextH;split<;>rfl
   have e2:saysB g=true:=by unfold saysB;rw [hpd,←hk];rfl
   have H1:=Lib.hid (⟨e1,e2⟩:_∧_)
   have hh:=Hok.out.host
   have hhs:=Hok.out.hosts
   have Hca:=Lib.hid (call_g S.out (Hok.out.may hpd))
   have Hs2:=Lib.hid (fun (wx:World) (hx:St W wx (thG p g1 av::L))=>set_gt (g1:=g2) 3 (.int .i64 (g.host+1)) (by rw [hg1,hg2];unfold gtV;simp only [List.setIfInBounds_toArray,List.set_cons_zero,List.set_cons_succ]) hx)
   have Hs3:=Lib.hid (fun (wx:World) (hx:St W wx (thG p g2 av::L))=>set_gt (g1:=g3) 3 (.int .i64 8) (by rw [hg2,hg3];unfold gtV;simp only [List.setIfInBounds_toArray,List.set_cons_zero,List.set_cons_succ]) hx)
   obtain ⟨h,hh1⟩:∃ h,h=g.host:=⟨_,rfl⟩
   have Hh:Hid (g1.host=h∧g2.host=h+1∧g2.hosts=g.hosts):=by rw [hg1,hg2,hh1];exact Lib.hid ⟨rfl,rfl,rfl⟩
   have Hg1:=Lib.hid hg1
   rw [←hh1] at c3 hh Hs2 H1
   have hw1:IntKind.i64.wrap (h+1)=h+1:=by rw [IntKind.wrap_i64];omega
   have Hh1:=Lib.hid hh1
   clear e1 e2 hpd hg1 hg2 hg3 hk hh1 hwb hw
   go_enter Tryz.func10,Tryz.ntmps10
   go_wp2_with fail
   refine Hca.out.mono ?_
   rintro e w1 ⟨b,rfl,hS,hM⟩
   rw [←Hg1.out] at hS
   have S1:=Lib.hid hS
   have HM:=Lib.hid hM
   clear hS hM c3 c4 c5 hfz hp S Hca
   have hp:=(S1.out.cellsN 0 rfl).1
   have hfz:=(S1.out.cellsN 0 rfl).2.2
   obtain ⟨c0,c1,c2,c3,c4,c5,c6,c7,c8,c9,c10,c11,c12,c13,c14,c15,c16,c17,c18⟩:=gbox (show w1.heap[p]?=some (.cells (gtV g1 av) 82 (0,0)) from S1.out.head)
   rw [Hh.out.1] at c3
   clear c0 c1 c2 c4 c5 c6 c7 c8 c9 c10 c11 c12 c13 c14 c15 c16 c17 c18
   go_wp2_with fail
   refine calls_name fun w2 hw2=>?_
   have hS2:=Hs2.out w1 S1.out
   have hM2:=HM.out.set Hpn.out 3 (.int .i64 (h+1))
   rw [←hw2] at hS2 hM2
   have S2:=Lib.hid hS2
   have HM:=Lib.hid hM2
   clear hS2 hM2 hw2 c3 hfz hp S1 Hs2
   have hgh:1≤g2.hosts∧g2.hosts≤6:=by rw [Hh.out.2.2];exact hhs
   have hih:=isHost_g S2.out (h+1) hgh
   rw [Hh.out.2.2] at hih
   obtain ⟨r,hr⟩:∃ r,r=isHostB g.hosts (h+1):=⟨_,rfl⟩
   rw [←hr] at hih H1
   have Hih:=Lib.hid hih
   clear hih hr hgh
   cases r with
   | true =>
    refine Hih.out.mono ?_
    rintro e w3 ⟨rfl,rfl⟩
    go_wp2_with fail
    go_ret
    unfold TickPost
    refine ⟨by rw [H1.out.1];(first | rw [if_pos rfl] | rw [if_pos trivial]);exact S2.out,?_⟩
    rw [H1.out.2,if_pos rfl]
    exact ⟨b,rfl,HM.out⟩
   | false =>
    refine Hih.out.mono ?_
    rintro e w3 ⟨rfl,rfl⟩
    have hp:=(S2.out.cellsN 0 rfl).1
    have hfz:=(S2.out.cellsN 0 rfl).2.2
    obtain ⟨c0,c1,c2,c3,c4,c5,c6,c7,c8,c9,c10,c11,c12,c13,c14,c15,c16,c17,c18⟩:=gbox (show w3.heap[p]?=some (.cells (gtV g2 av) 82 (0,0)) from S2.out.head)
    clear c0 c1 c2 c4 c5 c6 c7 c8 c9 c10 c11 c12 c13 c14 c15 c16 c17 c18
    go_wp2_with fail
    go_ret
    unfold TickPost
    refine ⟨by rw [H1.out.1];rw [if_neg (by simp)];exact Hs3.out w3 S2.out,?_⟩
    rw [H1.out.2,if_pos rfl]
    exact ⟨b,rfl,HM.out.set Hpn.out 3 _⟩
end Go.Proofs.YtogamdaomdoapaaGreat.G