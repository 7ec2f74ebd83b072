/- Texts put together: GtM, GtS, GtK. -/
import Derived.Test.YtogamdaomdoapaaGreatSa16
import Derived.Test.YtogamdaomdoapaaGreatSa27
import Derived.Test.YtogamdaomdoapaaGreatSa47
import Derived.Test.YtogamdaomdoapaaGreatSa48
import Derived.Test.YtogamdaomdoapaaGreatSa49
namespace Go.Proofs.YtogamdaomdoapaaGreat.G
set_option maxRecDepth 20000
open Go.RowKit
theorem row_form0 {w:World} {base:Nat} {ao:Option Addr} {cap:Nat} {A:List An} (h:(thA base ao cap A).T w):(ao=none→A=[]∧cap=0)∧∀ a,ao=some a→∃ g,a=⟨g,0,none⟩∧g<w.heap.size:=by
 have hr:=thA_row h
 rcases hr.2 with ⟨hv,h0⟩ | ⟨g,c,cur,hv,hb,hh,-⟩
 ·simp only [Value.slice.injEq] at hv
  refine ⟨fun _=>⟨List.length_eq_zero_iff.1 hv.2.1,hv.2.2⟩,fun a ha=>?_⟩
  rw [hv.1] at ha
  cases ha
 ·simp only [Value.slice.injEq] at hv
  refine ⟨fun h0=>?_,fun a ha=>?_⟩
  ·rw [hv.1] at h0
   cases h0
  ·rw [hv.1] at ha
   obtain rfl:=Option.some.inj ha
   exact ⟨g,rfl,lt_of_block hh⟩
theorem row_news {w:World} {base g cap:Nat} {A:List An} (h:(thA base (some ⟨g,0,none⟩) cap A).T w) {b:World} (hb:Below w.heap.size w b):∀ ad,(some ⟨g,0,none⟩:Option Addr)=some ad→∀ j u,(anR A)[j]?=some u→b.cell? (ad.add j)=some u:=by
 intro ad e j u hu
 obtain rfl:=Option.some.inj e
 have hj:=(List.getElem?_eq_some_iff.1 hu).1
 rw [anR_len] at hj
 obtain ⟨g',e',hl⟩:=(row_form0 h).2 _ rfl
 simp only [Addr.mk.injEq] at e'
 have hl':g<w.heap.size:=by rw [e'.1];exact hl
 have hadd:(⟨g,0,none⟩:Addr).add j=⟨g,j,none⟩:=by unfold Addr.add;split<;>simp_all
 rw [hadd,hb.cell (p:=⟨g,j,none⟩) hl',(thA_row h).cellAt j hj,hu]
theorem anR_ones (A:List An):∀ u∈anR A,u.oneCell'=true:=by
 intro u hu
 unfold anR at hu
 obtain ⟨a,-,ha⟩:=List.mem_flatMap.1 hu
 exact anV_one a u ha
theorem thA_weak {w:World} {base b2:Nat} {ao:Option Addr} {cap:Nat} {A:List An} (h:(thA base ao cap A).T w) (hb:b2≤base):(thA b2 ao cap A).T w:=by
 have h1:=thA_row h
 refine ⟨h1.1,?_⟩
 rcases h1.2 with h2 | ⟨g,c,cur,h2,h3,r⟩
 ·exact .inl h2
 ·exact .inr ⟨g,c,cur,h2,Nat.le_trans hb h3,r⟩
set_option maxHeartbeats 2000000 in
theorem clone_g {base:Nat} {ao:Option Addr} {cap:Nat} {A:List An} {w:World} (h:(thA base ao cap A).T w) (hA:A.length≤1000):Calls Tryz.prog 29 #[.slice ao A.length cap] w fun e w'=>∃ co c2,e=.returned (.slice co A.length c2)∧(thA w.heap.size co c2 A).T w'∧Below w.heap.size w w':=by
 cases ao with
 | none =>
  obtain ⟨rfl,rfl⟩:=(row_form0 h).1 rfl
  have heq:=fun w=>Lib.run_eql_slice_nil (P:=Tryz.prog) w 55 79 none 0 0 0 0 Tryz.underlying55
  rw [List.length_nil]
  go_enter Tryz.func29,Tryz.ntmps29
  go_wp2_with fail
  go_ret
  exact ⟨none,0,rfl,⟨by simp [anR],.inl ⟨rfl,rfl⟩⟩,Below.refl _ _⟩
 | some a =>
  obtain ⟨g,rfl,hg⟩:=(row_form0 h).2 a rfl
  have heq:=fun w=>Lib.run_eql_slice_nil (P:=Tryz.prog) w 55 79 (some ⟨g,0,none⟩) A.length cap 0 0 Tryz.underlying55
  obtain ⟨i0,hi0,hz0,hz1,hz2⟩:=info_parts ansInfo
  have Hnews:=Lib.hid (row_news h (b:=w.alloc (.cells #[] 79)) ((Below.refl _ _).alloc (Nat.le_refl _) _))
  clear h
  go_enter Tryz.func29,Tryz.ntmps29
  go_wp2_with (at_builtin;go_must (refine wpList_append_foot _ rfl (.tmp 5) (.tmp 6) 55 rfl w.heap.size 79 i0 (.agg zz18) 18 176 Tryz.underlying55 hi0 hz0 hz1 hz2 rfl (by decide) _ 0 _ [] rfl (owns_emptyAt _ w.heap.size rfl w.heap.size (Nat.le_refl _) 79 18) (some ⟨g,0,none⟩) A.length cap (anR A) rfl (fun h=>by cases h) (anR_len A) Hnews.out (fun u hu=>anR_ones A u hu) (by unfold maxLen;omega) (by omega) (by simp) ?_))
  intro co c2 w1 hown hgrow hco
  have hb:Below w.heap.size w w1:=below_grown ((Below.refl _ _).alloc (Nat.le_refl _) _) (by simp) hgrow (fun k hk=>by simp [Value.ownBlock] at hk;omega)
  have hown2:(thA w.heap.size co c2 A).T w1:=by
   have h2:w1.ownsRow w.heap.size 79 18 (.slice co A.length c2) A.length (anR A):=by simpa using hown
   exact h2
  have Ho:=Lib.hid hown2
  clear hown hgrow hco hown2
  go_wp2_with fail
  go_ret
  exact ⟨co,c2,rfl,Ho.out,hb⟩
theorem answers_g {W w:World} {L:List Th} {p:Nat} {g:Gt} {ao:Option Addr} {cap:Nat} {A:List An} (S0:St W w (thG p g (.slice ao A.length cap)::thA W.heap.size ao cap A::L)) (hA:A.length≤1000):Calls Tryz.prog 14 #[.pointer (some ⟨p,0,none⟩)] w fun e w'=>∃ co c2,e=.returned (.slice co A.length c2)∧St W w' (thA W.heap.size co c2 A::thG p g (.slice ao A.length cap)::thA W.heap.size ao cap A::L):=by
 have S:=Lib.hid S0
 have Hcl:=Lib.hid (clone_g (S0.pull (A:=[_])).head hA)
 have HWw:=Lib.hid S0.b.size
 clear S0
 have hp:=(S.out.cellsN 0 rfl).1
 obtain ⟨c0,c1,c2,c3,c4,c5,c6,c7,c8,c9,c10,c11,c12,c13,c14,c15,c16,c17,c18⟩:=gbox (show w.heap[p]?=some (.cells (gtV g (.slice ao A.length cap)) 82 (0,0)) from S.out.head)
 clear c0 c1 c2 c3 c4 c5 c6 c7 c8 c9 c10 c11 c12 c13 c14 c15 c16 c17
 obtain ⟨n,hn⟩:∃ n,n=A.length:=⟨_,rfl⟩
 rw [←hn] at Hcl c18 ⊢
 have Hn:=Lib.hid hn
 clear hn
 go_enter Tryz.func14,Tryz.ntmps14
 go_wp2_with fail
 refine Hcl.out.mono ?_
 rintro e w1 ⟨co,c2,rfl,hT,hb⟩
 have S1:=Lib.hid (S.out.new hb (thA w.heap.size co c2 A) hT (fun x hx=>by
  obtain ⟨a,rfl,rfl⟩:=hx
  exact ((thA_row hT).lt a.block rfl).1))
 clear hT hb S Hcl c18 hp
 go_wp2_with fail
 go_ret
 obtain rfl:=Hn.out
 refine ⟨co,c2,rfl,?_⟩
 have hW:=S1.out
 exact ⟨hW.b,thA_weak hW.head HWw.out,hW.t.2.1,hW.t.2.2⟩
theorem pending_g {W w:World} {L:List Th} {p:Nat} {g:Gt} {av:Value} (S0:St W w (thG p g av::L)):Calls Tryz.prog 21 #[.pointer (some ⟨p,0,none⟩)] w fun e w'=>e=.returned (.tuple #[.agg #[.int .i64 g.op.kind,.int .i64 g.op.client,.int .i64 g.op.seq,.string g.op.key,.string g.op.who,.string g.op.tkey,.string g.op.twho,.int .i64 g.op.item,.int .i64 g.op.count,.int .i64 g.op.price,.bool g.op.buy,.int .i64 g.op.id],.bool g.pend])∧Below w.heap.size w w':=by
 have S:=Lib.hid S0
 clear S0
 have hp:=(S.out.cellsN 0 rfl).1
 obtain ⟨c0,c1,c2,c3,c4,c5,c6,c7,c8,c9,c10,c11,c12,c13,c14,c15,c16,c17,c18⟩:=gbox (show w.heap[p]?=some (.cells (gtV g av) 82 (0,0)) from S.out.head)
 clear c0 c1 c2 c3 c4 c18
 go_enter Tryz.func21,Tryz.ntmps21
 go_wp2_with fail
 refine wp_name fun wa hwa=>?_
 obtain ⟨R,hR⟩:∃ R,R=w.heap.size:=⟨_,rfl⟩
 have S1:Hid (St W wa (thObj R (.cells #[.int .i64 0,.int .i64 0,.int .i64 0,.string ⟨#[]⟩,.string ⟨#[]⟩,.string ⟨#[]⟩,.string ⟨#[]⟩,.int .i64 0,.int .i64 0,.int .i64 0,.bool false,.int .i64 0] 30 (0,0))::thG p g av::L)):=by rw [hwa];exact Lib.hid (S.out.objN _ R hR)
 have HR:=Lib.hid hR
 have hwb:Below w.heap.size w wa:=by rw [hwa];exact bg
 have hpR:p<R:=by rw [hR];exact hp
 rw [←hR]
 clear hwa hR S c5 c6 c7 c8 c9 c10 c11 c12 c13 c14 c15 c16 c17 hp
 obtain ⟨c0,c1,c2,c3,c4,c5,c6,c7,c8,c9,c10,c11,c12,c13,c14,c15,c16,c17,c18⟩:=gbox (show wa.heap[p]?=some (.cells (gtV g av) 82 (0,0)) from (S1.out.pull (A:=[_])).head)
 obtain ⟨rl,rc,rf⟩:=S1.out.cellsN 0 rfl
 have hp:=(S1.out.cellsN 1 rfl).1
 clear c0 c1 c2 c3 c4 c18
 have hne:¬R=p:=by omega
 have hne2:¬p=R:=by omega
 go_region
 all_goals
  go_wp2_with fail
  refine bodyPost_ret (v:=.tuple #[.agg #[.int .i64 g.op.kind,.int .i64 g.op.client,.int .i64 g.op.seq,.string g.op.key,.string g.op.who,.string g.op.tkey,.string g.op.twho,.int .i64 g.op.item,.int .i64 g.op.count,.int .i64 g.op.price,.bool g.op.buy,.int .i64 g.op.id],.bool g.pend]) (by simp only [results,Tryz.results21];go_simp) rfl ⟨rfl,?_⟩
  have hRw:=HR.out
  exact bg
def byG (d:Wd):List UInt8:=if mayW d=true then encW d else []
theorem renc_oneG {w:World} {d:Wd} {e:Ending} {w':World} (h:REncWPost w d e w'):Below w.heap.size w w'∧∃ xo xc,e=.returned (.tuple #[.slice xo (byG d).length xc,.int .i64 (if mayW d=true then 0 else 1)])∧F.Sl w' xo xc (byG d):=by
 obtain ⟨hb,h⟩:=h
 refine ⟨hb,?_⟩
 unfold byG
 cases hm:mayW d with
 | true =>
  rw [if_pos hm] at h
  exact h
 | false =>
  rw [if_neg (by rw [hm];simp)] at h
  subst h
  exact ⟨none,0,rfl,sl_nil w'⟩
theorem sl_apartM {w:World} {Q:Nat} {a b:Int} {s:Option Addr} {n k:Nat} {t:TypeId} {fr:Nat × Nat} (hq:w.heap[Q]?=some (.cells #[.int .i64 a,.int .i64 b,.slice s n k] t fr)) {ao:Option Addr} {c:Nat} {l:List UInt8} (h:F.Sl w ao c l):0<l.length→∀ a,ao=some a→a.block≠Q:=by
 intro hp a' ha he
 obtain ⟨g,o,e,hz,hr⟩:=h.at_ hp
 rw [ha] at e
 obtain rfl:=Option.some.inj e
 simp only at he
 subst he
 have h1:=hr 0 hp
 rw [cell_of_row w g _ _ _ _ hq] at h1
 have h2:=congrArg (Option.map isU8) h1
 rw [←Array.getElem?_toList,←List.getElem?_map,show (List.map isU8 (#[Value.int .i64 a,.int .i64 b,.slice s n k]:Array Value).toList)=List.replicate 3 false from rfl,List.getElem?_replicate] at h2
 split at h2<;>simp [isU8] at h2
set_option maxHeartbeats 4000000 in
theorem msg_any {d:Wd} {V:Array Value} (hV:V=wdV d (.slice none d.mp.zs.length 0) (.slice none d.data.length 0)) (hmp:d.mp=mp0) (hda:d.data=[]) (hl:Light d) (f t:Int) (w:World):Calls Tryz.prog 12 #[.int .i64 f,.int .i64 t,.agg V] w fun e w'=>∃ xo xc,e=.returned (.agg #[.int .i64 f,.int .i64 t,.slice xo (byG d).length xc])∧Below w.heap.size w w'∧F.Sl w' xo xc (byG d):=by
 have hs:V.size=37:=by rw [hV];rfl
 have hre:=fun w=>(rencW_any hV none none 0 0 rfl rfl w (by rw [hmp];exact fun h=>absurd h (by decide)) (by rw [hda];exact sl_nil _) hl).mono (fun e w' h=>renc_oneG h)
 obtain ⟨X,hX⟩:∃ X,X=byG d:=⟨_,rfl⟩
 obtain ⟨c,hc⟩:∃ c:Int,c=if mayW d=true then 0 else 1:=⟨_,rfl⟩
 rw [←hX,←hc] at hre
 rw [←hX]
 have Hre:=Lib.hid hre
 clear hre hX hc hmp hda hl hV
 go_enter Tryz.func12,Tryz.ntmps12
 refine wp_hold fun C HC=>?_
 go_wp2_with fail
 refine wp_name fun wa hwa=>?_
 obtain ⟨B,hB⟩:∃ B,B=w.heap.size:=⟨_,rfl⟩
 have S:Hid (St w wa [thObj (B+1) (.cells #[.int .i64 0,.int .i64 0,.slice none 0 0] 52 (0,0)),thObj B (.cells V 49 (0,0))]):=by
  rw [hwa]
  exact Lib.hid (((St.start w).objN _ B hB).objN _ (B+1) (by rw [hB];simp))
 rw [←hB]
 clear hwa hB
 ((have hC:=HC.out);clear HC;subst hC)
 refine wp_hold fun C HC=>?_
 refine wp_seq ?_
 refine wp_region_lit ?_
 refine wpList_load_row rfl 49 _ rfl B rfl _ _ _ _ (S.out.pull (A:=[_])).head Tryz.underlying49 rfl (by rw [hs];kernel_rfl) ?_
 go_wp2_with fail
 refine (Hre.out wa).mono ?_
 rintro e w1 ⟨hb1,xo,xc,rfl,hx⟩
 have S:=Lib.hid (S.out.grow hb1)
 have Hx:=Lib.hid hx
 clear hb1 hx Hre
 go_wp2_with fail
 ((have hC:=HC.out);clear HC;subst hC)
 have hap:=Lib.hid (sl_apartM (S.out.head) Hx.out)
 obtain ⟨ml,mc,mf⟩:=S.out.cellsN 0 rfl
 obtain ⟨n,hn⟩:∃ n,n=X.length:=⟨_,rfl⟩
 rw [←hn]
 have Hn:=Lib.hid hn
 clear hn
 go_wp2_with fail
 have S2:=((S.out.setObj 0 (.int .i64 f)).setObj 1 (.int .i64 t)).setObj 2 (.slice xo n xc)
 refine bodyPost_ret (v:=.agg #[.int .i64 f,.int .i64 t,.slice xo n xc]) (by simp only [results,Tryz.results12];go_simp) rfl ⟨xo,xc,by rw [Hn.out],S2.b,?_⟩
 exact sl_setG (sl_setG (sl_setG Hx.out hap.out) hap.out) hap.out
end Go.Proofs.YtogamdaomdoapaaGreat.G
namespace Go.Proofs.YtogamdaomdoapaaGreat.G
set_option maxRecDepth 20000
open Go.RowKit
def SubPost (W:World) (L:List Th) (p:Nat) (g:Gt) (av:Value) (o:Rq) (e:Ending) (w':World):Prop:=e=.returned (.tuple #[.agg #[.int .i64 (subR g o).kind,.int .i64 (subR g o).client,.int .i64 (subR g o).seq,.string (subR g o).key,.string (subR g o).who,.string (subR g o).tkey,.string (subR g o).twho,.int .i64 (subR g o).item,.int .i64 (subR g o).count,.int .i64 (subR g o).price,.bool (subR g o).buy,.int .i64 (subR g o).id],.int .i64 (subE g o)])∧St W w' (thG p (subG g o) av::L)
theorem sub_no {g:Gt} {o:Rq} (h:takesB g o=false):subR g o=rq0∧subE g o=(if g.pend=true then 12 else 1)∧subG g o=g:=by
 have hf:¬takesB g o=true:=by rw [h];simp
 unfold subR subE subG
 exact ⟨if_neg hf,by rw [if_neg hf],if_neg hf⟩
theorem sub_yes {g:Gt} {o:Rq} (h:takesB g o=true):subR g o=askO g o∧subE g o=0∧subG g o={ g with op:=askO g o,pend:=true,wait:=0,next:=g.next+1 }:=by
 have hp:g.pend=false:=by unfold takesB at h;simp only [Bool.and_eq_true] at h;simpa using h.1.1
 unfold subR subE subG
 exact ⟨if_pos h,by rw [if_pos h,if_neg (by rw [hp];simp)],if_pos h⟩
set_option maxHeartbeats 4000000 in
theorem submit_g {W w:World} {L:List Th} {p:Nat} {g:Gt} {av:Value} (S0:St W w (thG p g av::L)) (hok:Ok g) (o:Rq):Calls Tryz.prog 8 #[.pointer (some ⟨p,0,none⟩),.agg #[.int .i64 o.kind,.int .i64 o.client,.int .i64 o.seq,.string o.key,.string o.who,.string o.tkey,.string o.twho,.int .i64 o.item,.int .i64 o.count,.int .i64 o.price,.bool o.buy,.int .i64 o.id]] w (SubPost W L p g av o):=by
 have S:=Lib.hid S0
 have Hok:=Lib.hid hok
 clear S0 hok
 cases hpd:g.pend with
 | true =>
  have hno:takesB g o=false:=by unfold takesB;rw [hpd];rfl
  have h3:=sub_no hno
  rw [if_pos hpd] at h3
  have Hno:=Lib.hid h3
  have hp:=(S.out.cellsN 0 rfl).1
  obtain ⟨c0,c1,c2,c3,c4,c5,c6,c7,c8,c9,c10,c11,c12,c13,c14,c15,c16,c17,c18⟩:=gbox (show w.heap[p]?=some (.cells (gtV g av) 82 (0,0)) from S.out.head)
  rw [hpd] at c5
  clear hno h3 hpd c0 c1 c2 c3 c4 c6 c7 c8 c9 c10 c11 c12 c13 c14 c15 c16 c17 c18
  go_enter Tryz.func8,Tryz.ntmps8
  go_wp2_with fail
  ((refine bodyPost_ret (v:=.tuple #[.agg #[.int .i64 0,.int .i64 0,.int .i64 0,.string ⟨#[]⟩,.string ⟨#[]⟩,.string ⟨#[]⟩,.string ⟨#[]⟩,.int .i64 0,.int .i64 0,.int .i64 0,.bool false,.int .i64 0],.int .i64 12]) (by simp only [results,Tryz.results8];go_simp) rfl ?_);(unfold SubPost;rw [Hno.out.1,Hno.out.2.1,Hno.out.2.2];skip;exact ⟨rfl,S.out.grow bg⟩))
 | false =>
  obtain ⟨O,hO⟩:∃ O,O=w.heap.size:=⟨_,rfl⟩
  have hp:p<w.heap.size:=(S.out.cellsN 0 rfl).1
  obtain ⟨q,hq⟩:∃ q,q=askO g o:=⟨_,rfl⟩
  have Hq:=Lib.hid hq
  have HO:=Lib.hid hO
  have HT:Hid (takesB g o=(!g.pend&&(!decide (q.kind<1)&&!decide (5<q.kind))&&mayO q)):=by
   rw [hq]
   unfold takesB
   have h1:decide (1≤o.kind)=!decide (o.kind<1):=by rw [Bool.eq_iff_iff];simp only [Bool.not_eq_true',decide_eq_true_eq,decide_eq_false_iff_not];omega
   have h2:decide (o.kind≤5)=!decide (5<o.kind):=by rw [Bool.eq_iff_iff];simp only [Bool.not_eq_true',decide_eq_true_eq,decide_eq_false_iff_not];omega
   rw [h1,h2]
   rfl
  have hi:=Hok.out.id
  have hn:=Hok.out.next
  have Hpd:=Lib.hid hpd
  clear hq
  obtain ⟨c0,c1,c2,c3,c4,c5,c6,c7,c8,c9,c10,c11,c12,c13,c14,c15,c16,c17,c18⟩:=gbox (show w.heap[p]?=some (.cells (gtV g av) 82 (0,0)) from S.out.head)
  rw [hpd] at c5
  clear hpd c0 c1 c2 c3 c4 c6 c7 c8 c9 c10 c11 c12 c13 c14 c15 c16 c17 c18
  go_enter Tryz.func8,Tryz.ntmps8
  refine wp_hold fun C HC=>?_
  go_wp2_with fail
  ((have hC:=HC.out);clear HC;subst hC)
  refine wp_hold fun C HC=>?_
  go_wp2_with fail
  ((have hC:=HC.out);clear HC;subst hC)
  refine wp_hold fun C HC=>?_
  go_wp2_with fail
  ((have hC:=HC.out);clear HC;subst hC)
  refine wp_hold fun C HC=>?_
  refine wp_seq ?_
  refine wp_name fun wa hwa=>?_
  have S1:Hid (St W wa (thObj (O+1) (.cells #[.int .i64 0,.int .i64 0,.int .i64 0,.string ⟨#[]⟩,.string ⟨#[]⟩,.string ⟨#[]⟩,.string ⟨#[]⟩,.int .i64 0,.int .i64 0,.int .i64 0,.bool false,.int .i64 0] 30 (0,0))::thObj O (.cells #[.int .i64 o.kind,.int .i64 o.client,.int .i64 o.seq,.string o.key,.string o.who,.string o.tkey,.string o.twho,.int .i64 o.item,.int .i64 o.count,.int .i64 o.price,.bool o.buy,.int .i64 o.id] 30 (0,0))::thG p g av::L)):=by
   rw [hwa]
   exact Lib.hid ((S.out.objN _ O hO).objN _ (O+1) (by rw [hO];simp))
  rw [←hO]
  have hOp:p<O:=by rw [hO];exact hp
  have wa_b:Below w.heap.size w wa:=by rw [hwa];exact bg
  clear hwa c5 hO hp
  obtain ⟨c0,c1,c2,c3,c4,c5,c6,c7,c8,c9,c10,c11,c12,c13,c14,c15,c16,c17,c18⟩:=gbox (show wa.heap[p]?=some (.cells (gtV g av) 82 (0,0)) from (S1.out.pull (A:=[_,_])).head)
  have hp:=(S1.out.cellsN 2 rfl).1
  obtain ⟨ol,oc,ofz⟩:=S1.out.cellsN 1 rfl
  have hne:¬O=p:=by omega
  have hne2:¬p=O:=by omega
  clear c1 c3 c4 c5 c6 c7 c8 c9 c10 c11 c12 c13 c14 c15 c16 c17 c18
  have hw1:IntKind.i64.wrap (g.id - 32)=g.id - 32:=by rw [IntKind.wrap_i64];omega
  have hw2:IntKind.i64.wrap (g.id - 32+1)=g.id - 32+1:=by rw [IntKind.wrap_i64];omega
  have hOw:=HO.out
  clear hOw
  go_region
  go_wp2_with fail
  refine wp_name fun wb hwb=>?_
  have S2:Hid (St W wb (thObj (O+1) (.cells #[.int .i64 0,.int .i64 0,.int .i64 0,.string ⟨#[]⟩,.string ⟨#[]⟩,.string ⟨#[]⟩,.string ⟨#[]⟩,.int .i64 0,.int .i64 0,.int .i64 0,.bool false,.int .i64 0] 30 (0,0))::thObj O (.cells #[.int .i64 q.kind,.int .i64 q.client,.int .i64 q.seq,.string q.key,.string q.who,.string q.tkey,.string q.twho,.int .i64 q.item,.int .i64 q.count,.int .i64 q.price,.bool q.buy,.int .i64 q.id] 30 (0,0))::thG p g av::L)):=by
   rw [hwb,Hq.out]
   exact Lib.hid ((((((S1.out.pull (A:=[_])).setObj 1 (.int .i64 (g.id - 32+1))).setObj 2 (.int .i64 g.next)).pull (A:=[_])).grow (Below.refl _ _).drew))
  have hOw:=HO.out
  have wb_b:Below w.heap.size w wb:=by rw [hwb];exact bg
  have Wb:=Lib.hid wb_b
  rw [Hpd.out] at HT
  clear hwb S1 ol oc ofz hne hne2 hw1 hw2 hi hn wa_b hp c0 c2 hOw wb_b
  ((have hC:=HC.out);clear HC;subst hC)
  obtain ⟨z1,z2,z3⟩:=S2.out.cellsN 0 rfl
  obtain ⟨ol,oc,ofz⟩:=S2.out.cellsN 1 rfl
  have hmc:=fun w=>may_any q w (mayO q) rfl
  obtain ⟨my,hmy⟩:∃ my,my=mayO q:=⟨_,rfl⟩
  rw [←hmy] at hmc HT
  have Hmc:=Lib.hid hmc
  clear hmc hmy
  rcases Bool.eq_false_or_eq_true (decide (q.kind<1)) with t1 | t1
  ·(have hno:takesB g o=false:=(by rw [HT.out,t1];rfl));(have h3:=sub_no hno);(rw [if_neg (by rw [Hpd.out];simp)] at h3);(have Hno:=Lib.hid h3);clear hno h3 HT
   (go_wp2_with fail);((refine bodyPost_ret (v:=.tuple #[.agg #[.int .i64 0,.int .i64 0,.int .i64 0,.string ⟨#[]⟩,.string ⟨#[]⟩,.string ⟨#[]⟩,.string ⟨#[]⟩,.int .i64 0,.int .i64 0,.int .i64 0,.bool false,.int .i64 0],.int .i64 1]) (by simp only [results,Tryz.results8];go_simp) rfl ?_);(unfold SubPost;rw [Hno.out.1,Hno.out.2.1,Hno.out.2.2];(have hOw:=HO.out);(have wb_b:=Wb.out);exact ⟨rfl,S.out.grow bg⟩))
  rcases Bool.eq_false_or_eq_true (decide (5<q.kind)) with t2 | t2
  ·(have hno:takesB g o=false:=(by rw [HT.out,t1,t2];rfl));(have h3:=sub_no hno);(rw [if_neg (by rw [Hpd.out];simp)] at h3);(have Hno:=Lib.hid h3);clear hno h3 HT
   (go_wp2_with fail);((refine bodyPost_ret (v:=.tuple #[.agg #[.int .i64 0,.int .i64 0,.int .i64 0,.string ⟨#[]⟩,.string ⟨#[]⟩,.string ⟨#[]⟩,.string ⟨#[]⟩,.int .i64 0,.int .i64 0,.int .i64 0,.bool false,.int .i64 0],.int .i64 1]) (by simp only [results,Tryz.results8];go_simp) rfl ?_);(unfold SubPost;rw [Hno.out.1,Hno.out.2.1,Hno.out.2.2];(have hOw:=HO.out);(have wb_b:=Wb.out);exact ⟨rfl,S.out.grow bg⟩))
  cases my with
  | false =>
   (have hno:takesB g o=false:=(by rw [HT.out,t1,t2];rfl));(have h3:=sub_no hno);(rw [if_neg (by rw [Hpd.out];simp)] at h3);(have Hno:=Lib.hid h3);clear hno h3 HT
   refine wp_hold fun C HC=>?_
   go_wp2_with fail
   refine (Hmc.out _).mono ?_
   rintro e wc ⟨rfl,hb⟩
   have Wb:=Lib.hid (Wb.out.trans (hb.mono Wb.out.size))
   have S2:=Lib.hid (S2.out.grow hb)
   clear hb z1 z2 z3 ol oc ofz
   obtain ⟨z1,z2,z3⟩:=S2.out.cellsN 0 rfl
   go_wp2_with fail
   ((have hC:=HC.out);clear HC;subst hC)
   (go_wp2_with fail);((refine bodyPost_ret (v:=.tuple #[.agg #[.int .i64 0,.int .i64 0,.int .i64 0,.string ⟨#[]⟩,.string ⟨#[]⟩,.string ⟨#[]⟩,.string ⟨#[]⟩,.int .i64 0,.int .i64 0,.int .i64 0,.bool false,.int .i64 0],.int .i64 1]) (by simp only [results,Tryz.results8];go_simp) rfl ?_);(unfold SubPost;rw [Hno.out.1,Hno.out.2.1,Hno.out.2.2];(have hOw:=HO.out);(have wb_b:=Wb.out);exact ⟨rfl,S.out.grow bg⟩))
  | true =>
   have h3:=sub_yes (g:=g) (o:=o) (by rw [HT.out,t1,t2];rfl)
   have Hyes:=Lib.hid h3
   clear h3 HT
   refine wp_hold fun C HC=>?_
   go_wp2_with fail
   refine (Hmc.out _).mono ?_
   rintro e wc ⟨rfl,hb⟩
   have S2:=Lib.hid (S2.out.grow hb)
   clear hb z1 z2 z3 ol oc ofz Wb Hmc t1 t2
   obtain ⟨ol,oc,ofz⟩:=S2.out.cellsN 1 rfl
   obtain ⟨pl,-,pf⟩:=S2.out.cellsN 2 rfl
   obtain ⟨c0,c1,c2,c3,c4,c5,c6,c7,c8,c9,c10,c11,c12,c13,c14,c15,c16,c17,c18⟩:=gbox (show wc.heap[p]?=some (.cells (gtV g av) 82 (0,0)) from (S2.out.pull (A:=[_,_])).head)
   go_wp2_with fail
   ((have hC:=HC.out);clear HC;subst hC)
   refine wp_hold fun C HC=>?_
   have hne:¬O=p:=by omega
   have hne2:¬p=O:=by omega
   clear c0 c1 c2 c3 c18
   go_wp2_with fail
   refine wp_name fun wd hwd=>?_
   obtain ⟨g1,hg1⟩:∃ g1:Gt,g1={ g with op:=q,pend:=true,wait:=0 }:=⟨_,rfl⟩
   have S3:Hid (St W wd (thG p g1 av::thObj (O+1) (.cells #[.int .i64 0,.int .i64 0,.int .i64 0,.string ⟨#[]⟩,.string ⟨#[]⟩,.string ⟨#[]⟩,.string ⟨#[]⟩,.int .i64 0,.int .i64 0,.int .i64 0,.bool false,.int .i64 0] 30 (0,0))::thObj O (.cells #[.int .i64 q.kind,.int .i64 q.client,.int .i64 q.seq,.string q.key,.string q.who,.string q.tkey,.string q.twho,.int .i64 q.item,.int .i64 q.count,.int .i64 q.price,.bool q.buy,.int .i64 q.id] 30 (0,0))::L)):=by
    have h:=(((((((((((((((S2.out.pull (A:=[_,_])).setObj 6 (.int .i64 q.kind)).setObj 7 (.int .i64 q.client)).setObj 8 (.int .i64 q.seq)).setObj 9 (.string q.key)).setObj 10 (.string q.who)).setObj 11 (.string q.tkey)).setObj 12 (.string q.twho)).setObj 13 (.int .i64 q.item)).setObj 14 (.int .i64 q.count)).setObj 15 (.int .i64 q.price)).setObj 16 (.bool q.buy)).setObj 17 (.int .i64 q.id)).setObj 5 (.bool true)).setObj 4 (.int .i64 0))
    rw [←hwd] at h
    have eV:(((((((((((((((gtV g av).setIfInBounds 6 (.int .i64 q.kind)).setIfInBounds 7 (.int .i64 q.client)).setIfInBounds 8 (.int .i64 q.seq)).setIfInBounds 9 (.string q.key)).setIfInBounds 10 (.string q.who)).setIfInBounds 11 (.string q.tkey)).setIfInBounds 12 (.string q.twho)).setIfInBounds 13 (.int .i64 q.item)).setIfInBounds 14 (.int .i64 q.count)).setIfInBounds 15 (.int .i64 q.price)).setIfInBounds 16 (.bool q.buy)).setIfInBounds 17 (.int .i64 q.id)).setIfInBounds 5 (.bool true)).setIfInBounds 4 (.int .i64 0))=gtV g1 av:=by
     rw [hg1]
     unfold gtV
     simp only [List.setIfInBounds_toArray,List.set_cons_zero,List.set_cons_succ]
    simp only [List.cons_append,List.nil_append] at h
    rw [eV] at h
    exact Lib.hid h
   have hnx:g1.next=g.next:=by rw [hg1]
   have hw3:IntKind.i64.wrap (g1.next+1)=g1.next+1:=by rw [IntKind.wrap_i64,hnx];have:=Hok.out.next;omega
   have Hg1:=Lib.hid hg1
   clear hwd S2 ol oc ofz pl pf c4 c5 c6 c7 c8 c9 c10 c11 c12 c13 c14 c15 c16 c17 hg1 hnx
   ((have hC:=HC.out);clear HC;subst hC)
   refine wp_hold fun C HC=>?_
   obtain ⟨pl,-,pf⟩:=S3.out.cellsN 0 rfl
   obtain ⟨c0,c1,c2,c3,c4,c5,c6,c7,c8,c9,c10,c11,c12,c13,c14,c15,c16,c17,c18⟩:=gbox (show wd.heap[p]?=some (.cells (gtV g1 av) 82 (0,0)) from S3.out.head)
   clear c0 c1 c3 c4 c5 c6 c7 c8 c9 c10 c11 c12 c13 c14 c15 c16 c17 c18
   go_wp2_with fail
   refine wp_name fun we hwe=>?_
   have S4:Hid (St W we (thObj (O+1) (.cells #[.int .i64 0,.int .i64 0,.int .i64 0,.string ⟨#[]⟩,.string ⟨#[]⟩,.string ⟨#[]⟩,.string ⟨#[]⟩,.int .i64 0,.int .i64 0,.int .i64 0,.bool false,.int .i64 0] 30 (0,0))::thObj O (.cells #[.int .i64 q.kind,.int .i64 q.client,.int .i64 q.seq,.string q.key,.string q.who,.string q.tkey,.string q.twho,.int .i64 q.item,.int .i64 q.count,.int .i64 q.price,.bool q.buy,.int .i64 q.id] 30 (0,0))::thG p (subG g o) av::L)):=by
    have h:=S3.out.setObj 2 (.int .i64 (g1.next+1))
    rw [←hwe] at h
    rw [Hyes.out.2.2,←Hq.out]
    have e:(gtV g1 av).setIfInBounds 2 (.int .i64 (g1.next+1))=gtV { g with op:=q,pend:=true,wait:=0,next:=g.next+1 } av:=by
     rw [Hg1.out]
     unfold gtV
     simp only [List.setIfInBounds_toArray,List.set_cons_zero,List.set_cons_succ]
    rw [e] at h
    exact Lib.hid ((h.pull (A:=[_])).perm (List.Perm.cons _ (List.Perm.swap _ _ _)))
   clear hwe S3 pl pf c2 hw3
   ((have hC:=HC.out);clear HC;subst hC)
   obtain ⟨z1,z2,z3⟩:=S4.out.cellsN 0 rfl
   obtain ⟨ol,oc,ofz⟩:=S4.out.cellsN 1 rfl
   go_wp2_with fail
   have S5:=(((((((((((((S4.out.setObj 0 (.int .i64 q.kind)).setObj 1 (.int .i64 q.client)).setObj 2 (.int .i64 q.seq)).setObj 3 (.string q.key)).setObj 4 (.string q.who)).setObj 5 (.string q.tkey)).setObj 6 (.string q.twho)).setObj 7 (.int .i64 q.item)).setObj 8 (.int .i64 q.count)).setObj 9 (.int .i64 q.price)).setObj 10 (.bool q.buy)).setObj 11 (.int .i64 q.id))).drop.drop
   refine bodyPost_ret (v:=.tuple #[.agg #[.int .i64 q.kind,.int .i64 q.client,.int .i64 q.seq,.string q.key,.string q.who,.string q.tkey,.string q.twho,.int .i64 q.item,.int .i64 q.count,.int .i64 q.price,.bool q.buy,.int .i64 q.id],.int .i64 0]) (by simp only [results,Tryz.results8];go_simp) rfl ?_
   unfold SubPost
   rw [Hyes.out.1,Hyes.out.2.1,←Hq.out]
   exact ⟨rfl,S5⟩
end Go.Proofs.YtogamdaomdoapaaGreat.G
namespace Go.Proofs.YtogamdaomdoapaaGreat.G
set_option maxRecDepth 20000
open Go.RowKit
def nilA:Value:=.slice none 0 0
def lookQ:Rq:=⟨5,1,1,⟨#[97]⟩,⟨#[98]⟩,e0,e0,0,0,0,false,0⟩
def gtL (hosts:Int):Gt:=⟨32,hosts,2,8,0,true,lookQ⟩
theorem look_takes (hosts:Int):takesB (newG 32 hosts) lookO=true:=by
 show takesB (newG 32 1) lookO=true
 decide +kernel
theorem look_sub (hosts:Int):subR (newG 32 hosts) lookO=lookQ∧subE (newG 32 hosts) lookO=0∧subG (newG 32 hosts) lookO=gtL hosts:=sub_yes (look_takes hosts)
theorem newOk_32 {hosts:Int} (h:1≤hosts∧hosts≤6):newOk 32 hosts=true:=by
 unfold newOk
 rw [decide_eq_true_eq]
 omega
theorem ok_L {hosts:Int} (h:1≤hosts∧hosts≤6):Ok (gtL hosts):=by
 rw [←(look_sub hosts).2.2]
 exact sub_ok (new_ok (newOk_32 h)) lookO
theorem new_32 {hosts:Int} (h:1≤hosts∧hosts≤6) (w:World):Calls Tryz.prog 7 #[.int .i64 32,.int .i64 hosts] w fun e w'=>∃ p,e=.returned (.tuple #[.pointer (some ⟨p,0,none⟩),.int .i64 0])∧St w w' [thG p (newG 32 hosts) nilA]:=by
 refine (new_any 32 hosts w).mono ?_
 intro e w' h2
 unfold NewPost at h2
 rw [if_pos (newOk_32 h)] at h2
 obtain ⟨rfl,rfl⟩:=h2
 exact ⟨_,rfl,(St.start w).objN _ w.heap.size rfl⟩
theorem sub_look {W w:World} {L:List Th} {p:Nat} {hosts:Int} (h:1≤hosts∧hosts≤6) (S:St W w (thG p (newG 32 hosts) nilA::L)):Calls Tryz.prog 8 #[.pointer (some ⟨p,0,none⟩),.agg #[.int .i64 lookO.kind,.int .i64 lookO.client,.int .i64 lookO.seq,.string lookO.key,.string lookO.who,.string lookO.tkey,.string lookO.twho,.int .i64 lookO.item,.int .i64 lookO.count,.int .i64 lookO.price,.bool lookO.buy,.int .i64 lookO.id]] w fun e w'=>e=.returned (.tuple #[.agg #[.int .i64 lookQ.kind,.int .i64 lookQ.client,.int .i64 lookQ.seq,.string lookQ.key,.string lookQ.who,.string lookQ.tkey,.string lookQ.twho,.int .i64 lookQ.item,.int .i64 lookQ.count,.int .i64 lookQ.price,.bool lookQ.buy,.int .i64 lookQ.id],.int .i64 0])∧St W w' (thG p (gtL hosts) nilA::L):=by
 refine (submit_g S (new_ok (newOk_32 h)) lookO).mono ?_
 intro e w' h2
 unfold SubPost at h2
 rw [(look_sub hosts).1,(look_sub hosts).2.1,(look_sub hosts).2.2] at h2
 exact h2
set_option maxHeartbeats 4000000 in
theorem known_g (w:World):Calls Tryz.prog 6 #[] w fun e w'=>e=.returned (.bool true)∧Below w.heap.size w w':=by
 have hv:(.agg #[.int .i64 lookO.kind,.int .i64 lookO.client,.int .i64 lookO.seq,.string lookO.key,.string lookO.who,.string lookO.tkey,.string lookO.twho,.int .i64 lookO.item,.int .i64 lookO.count,.int .i64 lookO.price,.bool lookO.buy,.int .i64 lookO.id]:Value)=.agg #[.int .i64 5,.int .i64 0,.int .i64 0,.string ⟨#[97]⟩,.string ⟨#[98]⟩,.string ⟨#[]⟩,.string ⟨#[]⟩,.int .i64 0,.int .i64 0,.int .i64 0,.bool false,.int .i64 0]:=rfl
 have hq:(.agg #[.int .i64 lookQ.kind,.int .i64 lookQ.client,.int .i64 lookQ.seq,.string lookQ.key,.string lookQ.who,.string lookQ.tkey,.string lookQ.twho,.int .i64 lookQ.item,.int .i64 lookQ.count,.int .i64 lookQ.price,.bool lookQ.buy,.int .i64 lookQ.id]:Value)=.agg #[.int .i64 5,.int .i64 1,.int .i64 1,.string ⟨#[97]⟩,.string ⟨#[98]⟩,.string ⟨#[]⟩,.string ⟨#[]⟩,.int .i64 0,.int .i64 0,.int .i64 0,.bool false,.int .i64 0]:=rfl
 have Hlk:=Lib.hid (fun w=>look_any w)
 have Hsu:=Lib.hid (fun (w1:World) (p:Nat) (S:St w w1 [thG p (newG 32 1) nilA])=>sub_look ⟨by decide,by decide⟩ S)
 rw [hv] at Hlk Hsu
 rw [hq] at Hsu
 clear hv hq
 go_enter Tryz.func6,Tryz.ntmps6
 go_wp2_with fail
 refine (new_32 (hosts:=1) ⟨by decide,by decide⟩ w).mono ?_
 rintro e w1 ⟨p,rfl,hS⟩
 have S:=Lib.hid hS
 clear hS
 go_wp2_with fail
 refine (Hlk.out w1).mono ?_
 rintro e w2 ⟨rfl,hb⟩
 have S:=Lib.hid (S.out.grow hb)
 clear hb
 go_wp2_with fail
 refine (Hsu.out w2 p S.out).mono ?_
 rintro e w3 ⟨rfl,hS⟩
 have S:=Lib.hid hS
 clear hS Hsu Hlk
 go_wp2_with fail
 refine calls_name fun w4 hw4=>?_
 obtain ⟨X,hX⟩:∃ X,X=w3.heap.size:=⟨_,rfl⟩
 have S4:Hid (St w w4 [thG p (gtL 1) nilA,thObj X (.cells #[.int .i64 5,.int .i64 1,.int .i64 1,.string ⟨#[97]⟩,.string ⟨#[98]⟩,.string ⟨#[]⟩,.string ⟨#[]⟩,.int .i64 0,.int .i64 0,.int .i64 0,.bool false,.int .i64 0] 30 (0,0))]):=by
  rw [hw4]
  exact Lib.hid ((S.out.objN _ X hX).pull (A:=[_]))
 rw [←hX]
 clear hw4 hX S
 refine (tick_g S4.out (ok_L ⟨by decide,by decide⟩)).mono ?_
 intro e w5 h
 obtain ⟨hS,h⟩:=h
 rw [if_pos (show saysB (gtL 1)=true from rfl)] at h
 obtain ⟨b,rfl,-,ao,cap,h1,-⟩:=h
 have m1:w5.cell? ⟨b,1,none⟩=some (.int .i64 8):=(cells_of_obj h1).1 1
 have mb:=lt_of_block h1
 obtain ⟨x1,x2,-⟩:=hS.cellsN 1 rfl
 have w5_b:=hS.b
 clear S4 hS h1
 go_wp2_with fail
 go_ret
 exact ⟨rfl,w5_b⟩
end Go.Proofs.YtogamdaomdoapaaGreat.G