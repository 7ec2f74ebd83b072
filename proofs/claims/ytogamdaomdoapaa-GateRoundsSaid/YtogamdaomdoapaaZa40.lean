/- Texts put together: GtS. -/
import Derived.Test.YtogamdaomdoapaaZa20
import Derived.Test.YtogamdaomdoapaaZa32
import Derived.Test.YtogamdaomdoapaaZa39
namespace Go.Proofs.Ytogamdaomdoapaa.G
set_option maxRecDepth 20000
open Go.RowKit
def SubPost (W:World) (L:List Th) (p:Nat) (g:Gt) (av:Value) (o:Rq) (e:Ending) (w':World):Prop:=e=.returned (.tuple #[.agg #[.int .i64 (subR g o).kind,.int .i64 (subR g o).client,.int .i64 (subR g o).seq,.string (subR g o).key,.string (subR g o).who,.string (subR g o).tkey,.string (subR g o).twho,.int .i64 (subR g o).item,.int .i64 (subR g o).count,.int .i64 (subR g o).price,.bool (subR g o).buy,.int .i64 (subR g o).id],.int .i64 (subE g o)])∧St W w' (thG p (subG g o) av::L)
theorem sub_no {g:Gt} {o:Rq} (h:takesB g o=false):subR g o=rq0∧subE g o=(if g.pend=true then 12 else 1)∧subG g o=g:=by
 have hf:¬takesB g o=true:=by rw [h];simp
 unfold subR subE subG
 exact ⟨if_neg hf,by rw [if_neg hf],if_neg hf⟩
theorem sub_yes {g:Gt} {o:Rq} (h:takesB g o=true):subR g o=askO g o∧subE g o=0∧subG g o={ g with op:=askO g o,pend:=true,wait:=0,next:=g.next+1 }:=by
 have hp:g.pend=false:=by unfold takesB at h;simp only [Bool.and_eq_true] at h;simpa using h.1.1
 unfold subR subE subG
 exact ⟨if_pos h,by rw [if_pos h,if_neg (by rw [hp];simp)],if_pos h⟩
set_option maxHeartbeats 4000000 in
theorem submit_g {W w:World} {L:List Th} {p:Nat} {g:Gt} {av:Value} (S0:St W w (thG p g av::L)) (hok:Ok g) (o:Rq):Calls Try.prog 7 #[.pointer (some ⟨p,0,none⟩),.agg #[.int .i64 o.kind,.int .i64 o.client,.int .i64 o.seq,.string o.key,.string o.who,.string o.tkey,.string o.twho,.int .i64 o.item,.int .i64 o.count,.int .i64 o.price,.bool o.buy,.int .i64 o.id]] w (SubPost W L p g av o):=by
 have S:=Lib.hid S0
 have Hok:=Lib.hid hok
 clear S0 hok
 cases hpd:g.pend with
 | true =>
  have hno:takesB g o=false:=by unfold takesB;rw [hpd];rfl
  have h3:=sub_no hno
  rw [if_pos hpd] at h3
  have Hno:=Lib.hid h3
  have hp:=(S.out.cellsN 0 rfl).1
  obtain ⟨c0,c1,c2,c3,c4,c5,c6,c7,c8,c9,c10,c11,c12,c13,c14,c15,c16,c17,c18⟩:=gbox (show w.heap[p]?=some (.cells (gtV g av) 49 (0,0)) from S.out.head)
  rw [hpd] at c5
  clear hno h3 hpd c0 c1 c2 c3 c4 c6 c7 c8 c9 c10 c11 c12 c13 c14 c15 c16 c17 c18
  go_enter Try.func7,Try.ntmps7
  go_wp2_with fail
  ((refine bodyPost_ret (v:=.tuple #[.agg #[.int .i64 0,.int .i64 0,.int .i64 0,.string ⟨#[]⟩,.string ⟨#[]⟩,.string ⟨#[]⟩,.string ⟨#[]⟩,.int .i64 0,.int .i64 0,.int .i64 0,.bool false,.int .i64 0],.int .i64 12]) (by simp only [results,Try.results7];go_simp) rfl ?_);(unfold SubPost;rw [Hno.out.1,Hno.out.2.1,Hno.out.2.2];skip;exact ⟨rfl,S.out.grow bg⟩))
 | false =>
  obtain ⟨O,hO⟩:∃ O,O=w.heap.size:=⟨_,rfl⟩
  have hp:p<w.heap.size:=(S.out.cellsN 0 rfl).1
  obtain ⟨q,hq⟩:∃ q,q=askO g o:=⟨_,rfl⟩
  have Hq:=Lib.hid hq
  have HO:=Lib.hid hO
  have HT:Hid (takesB g o=(!g.pend&&(!decide (q.kind<1)&&!decide (5<q.kind))&&mayO q)):=by
   rw [hq]
   unfold takesB
   have h1:decide (1≤o.kind)=!decide (o.kind<1):=by rw [Bool.eq_iff_iff];simp only [Bool.not_eq_true',decide_eq_true_eq,decide_eq_false_iff_not];omega
   have h2:decide (o.kind≤5)=!decide (5<o.kind):=by rw [Bool.eq_iff_iff];simp only [Bool.not_eq_true',decide_eq_true_eq,decide_eq_false_iff_not];omega
   rw [h1,h2]
   rfl
  have hi:=Hok.out.id
  have hn:=Hok.out.next
  have Hpd:=Lib.hid hpd
  clear hq
  obtain ⟨c0,c1,c2,c3,c4,c5,c6,c7,c8,c9,c10,c11,c12,c13,c14,c15,c16,c17,c18⟩:=gbox (show w.heap[p]?=some (.cells (gtV g av) 49 (0,0)) from S.out.head)
  rw [hpd] at c5
  clear hpd c0 c1 c2 c3 c4 c6 c7 c8 c9 c10 c11 c12 c13 c14 c15 c16 c17 c18
  go_enter Try.func7,Try.ntmps7
  refine wp_hold fun C HC=>?_
  go_wp2_with fail
  ((have hC:=HC.out);clear HC;subst hC)
  refine wp_hold fun C HC=>?_
  go_wp2_with fail
  ((have hC:=HC.out);clear HC;subst hC)
  refine wp_hold fun C HC=>?_
  go_wp2_with fail
  ((have hC:=HC.out);clear HC;subst hC)
  refine wp_hold fun C HC=>?_
  refine wp_seq ?_
  refine wp_name fun wa hwa=>?_
  have S1:Hid (St W wa (thObj (O+1) (.cells #[.int .i64 0,.int .i64 0,.int .i64 0,.string ⟨#[]⟩,.string ⟨#[]⟩,.string ⟨#[]⟩,.string ⟨#[]⟩,.int .i64 0,.int .i64 0,.int .i64 0,.bool false,.int .i64 0] 30 (0,0))::thObj O (.cells #[.int .i64 o.kind,.int .i64 o.client,.int .i64 o.seq,.string o.key,.string o.who,.string o.tkey,.string o.twho,.int .i64 o.item,.int .i64 o.count,.int .i64 o.price,.bool o.buy,.int .i64 o.id] 30 (0,0))::thG p g av::L)):=by
   rw [hwa]
   exact Lib.hid ((S.out.objN _ O hO).objN _ (O+1) (by rw [hO];simp))
  rw [←hO]
  have hOp:p<O:=by rw [hO];exact hp
  have wa_b:Below w.heap.size w wa:=by rw [hwa];exact bg
  clear hwa c5 hO hp
  obtain ⟨c0,c1,c2,c3,c4,c5,c6,c7,c8,c9,c10,c11,c12,c13,c14,c15,c16,c17,c18⟩:=gbox (show wa.heap[p]?=some (.cells (gtV g av) 49 (0,0)) from (S1.out.pull (A:=[_,_])).head)
  have hp:=(S1.out.cellsN 2 rfl).1
  obtain ⟨ol,oc,ofz⟩:=S1.out.cellsN 1 rfl
  have hne:¬O=p:=by omega
  have hne2:¬p=O:=by omega
  clear c1 c3 c4 c5 c6 c7 c8 c9 c10 c11 c12 c13 c14 c15 c16 c17 c18
  have hw1:IntKind.i64.wrap (g.id - 32)=g.id - 32:=by rw [IntKind.wrap_i64];omega
  have hw2:IntKind.i64.wrap (g.id - 32+1)=g.id - 32+1:=by rw [IntKind.wrap_i64];omega
  have hOw:=HO.out
  clear hOw
  go_region
  go_wp2_with fail
  refine wp_name fun wb hwb=>?_
  have S2:Hid (St W wb (thObj (O+1) (.cells #[.int .i64 0,.int .i64 0,.int .i64 0,.string ⟨#[]⟩,.string ⟨#[]⟩,.string ⟨#[]⟩,.string ⟨#[]⟩,.int .i64 0,.int .i64 0,.int .i64 0,.bool false,.int .i64 0] 30 (0,0))::thObj O (.cells #[.int .i64 q.kind,.int .i64 q.client,.int .i64 q.seq,.string q.key,.string q.who,.string q.tkey,.string q.twho,.int .i64 q.item,.int .i64 q.count,.int .i64 q.price,.bool q.buy,.int .i64 q.id] 30 (0,0))::thG p g av::L)):=by
   rw [hwb,Hq.out]
   exact Lib.hid ((((((S1.out.pull (A:=[_])).setObj 1 (.int .i64 (g.id - 32+1))).setObj 2 (.int .i64 g.next)).pull (A:=[_])).grow (Below.refl _ _).drew))
  have hOw:=HO.out
  have wb_b:Below w.heap.size w wb:=by rw [hwb];exact bg
  have Wb:=Lib.hid wb_b
  rw [Hpd.out] at HT
  clear hwb S1 ol oc ofz hne hne2 hw1 hw2 hi hn wa_b hp c0 c2 hOw wb_b
  ((have hC:=HC.out);clear HC;subst hC)
  obtain ⟨z1,z2,z3⟩:=S2.out.cellsN 0 rfl
  obtain ⟨ol,oc,ofz⟩:=S2.out.cellsN 1 rfl
  have hmc:=fun w=>may_any q w (mayO q) rfl
  obtain ⟨my,hmy⟩:∃ my,my=mayO q:=⟨_,rfl⟩
  rw [←hmy] at hmc HT
  have Hmc:=Lib.hid hmc
  clear hmc hmy
  rcases Bool.eq_false_or_eq_true (decide (q.kind<1)) with t1 | t1
  ·(have hno:takesB g o=false:=(by rw [HT.out,t1];rfl));(have h3:=sub_no hno);(rw [if_neg (by rw [Hpd.out];simp)] at h3);(have Hno:=Lib.hid h3);clear hno h3 HT
   (go_wp2_with fail);((refine bodyPost_ret (v:=.tuple #[.agg #[.int .i64 0,.int .i64 0,.int .i64 0,.string ⟨#[]⟩,.string ⟨#[]⟩,.string ⟨#[]⟩,.string ⟨#[]⟩,.int .i64 0,.int .i64 0,.int .i64 0,.bool false,.int .i64 0],.int .i64 1]) (by simp only [results,Try.results7];go_simp) rfl ?_);(unfold SubPost;rw [Hno.out.1,Hno.out.2.1,Hno.out.2.2];(have hOw:=HO.out);(have wb_b:=Wb.out);exact ⟨rfl,S.out.grow bg⟩))
  rcases Bool.eq_false_or_eq_true (decide (5<q.kind)) with t2 | t2
  ·(have hno:takesB g o=false:=(by rw [HT.out,t1,t2];rfl));(have h3:=sub_no hno);(rw [if_neg (by rw [Hpd.out];simp)] at h3);(have Hno:=Lib.hid h3);clear hno h3 HT
   (go_wp2_with fail);((refine bodyPost_ret (v:=.tuple #[.agg #[.int .i64 0,.int .i64 0,.int .i64 0,.string ⟨#[]⟩,.string ⟨#[]⟩,.string ⟨#[]⟩,.string ⟨#[]⟩,.int .i64 0,.int .i64 0,.int .i64 0,.bool false,.int .i64 0],.int .i64 1]) (by simp only [results,Try.results7];go_simp) rfl ?_);(unfold SubPost;rw [Hno.out.1,Hno.out.2.1,Hno.out.2.2];(have hOw:=HO.out);(have wb_b:=Wb.out);exact ⟨rfl,S.out.grow bg⟩))
  cases my with
  | false =>
   (have hno:takesB g o=false:=(by rw [HT.out,t1,t2];rfl));(have h3:=sub_no hno);(rw [if_neg (by rw [Hpd.out];simp)] at h3);(have Hno:=Lib.hid h3);clear hno h3 HT
   refine wp_hold fun C HC=>?_
   go_wp2_with fail
   refine (Hmc.out _).mono ?_
   rintro e wc ⟨rfl,hb⟩
   have Wb:=Lib.hid (Wb.out.trans (hb.mono Wb.out.size))
   have S2:=Lib.hid (S2.out.grow hb)
   clear hb z1 z2 z3 ol oc ofz
   obtain ⟨z1,z2,z3⟩:=S2.out.cellsN 0 rfl
   go_wp2_with fail
   ((have hC:=HC.out);clear HC;subst hC)
   (go_wp2_with fail);((refine bodyPost_ret (v:=.tuple #[.agg #[.int .i64 0,.int .i64 0,.int .i64 0,.string ⟨#[]⟩,.string ⟨#[]⟩,.string ⟨#[]⟩,.string ⟨#[]⟩,.int .i64 0,.int .i64 0,.int .i64 0,.bool false,.int .i64 0],.int .i64 1]) (by simp only [results,Try.results7];go_simp) rfl ?_);(unfold SubPost;rw [Hno.out.1,Hno.out.2.1,Hno.out.2.2];(have hOw:=HO.out);(have wb_b:=Wb.out);exact ⟨rfl,S.out.grow bg⟩))
  | true =>
   have h3:=sub_yes (g:=g) (o:=o) (by rw [HT.out,t1,t2];rfl)
   have Hyes:=Lib.hid h3
   clear h3 HT
   refine wp_hold fun C HC=>?_
   go_wp2_with fail
   refine (Hmc.out _).mono ?_
   rintro e wc ⟨rfl,hb⟩
   have S2:=Lib.hid (S2.out.grow hb)
   clear hb z1 z2 z3 ol oc ofz Wb Hmc t1 t2
   obtain ⟨ol,oc,ofz⟩:=S2.out.cellsN 1 rfl
   obtain ⟨pl,-,pf⟩:=S2.out.cellsN 2 rfl
   obtain ⟨c0,c1,c2,c3,c4,c5,c6,c7,c8,c9,c10,c11,c12,c13,c14,c15,c16,c17,c18⟩:=gbox (show wc.heap[p]?=some (.cells (gtV g av) 49 (0,0)) from (S2.out.pull (A:=[_,_])).head)
   go_wp2_with fail
   ((have hC:=HC.out);clear HC;subst hC)
   refine wp_hold fun C HC=>?_
   have hne:¬O=p:=by omega
   have hne2:¬p=O:=by omega
   clear c0 c1 c2 c3 c18
   go_wp2_with fail
   refine wp_name fun wd hwd=>?_
   obtain ⟨g1,hg1⟩:∃ g1:Gt,g1={ g with op:=q,pend:=true,wait:=0 }:=⟨_,rfl⟩
   have S3:Hid (St W wd (thG p g1 av::thObj (O+1) (.cells #[.int .i64 0,.int .i64 0,.int .i64 0,.string ⟨#[]⟩,.string ⟨#[]⟩,.string ⟨#[]⟩,.string ⟨#[]⟩,.int .i64 0,.int .i64 0,.int .i64 0,.bool false,.int .i64 0] 30 (0,0))::thObj O (.cells #[.int .i64 q.kind,.int .i64 q.client,.int .i64 q.seq,.string q.key,.string q.who,.string q.tkey,.string q.twho,.int .i64 q.item,.int .i64 q.count,.int .i64 q.price,.bool q.buy,.int .i64 q.id] 30 (0,0))::L)):=by
    have h:=(((((((((((((((S2.out.pull (A:=[_,_])).setObj 6 (.int .i64 q.kind)).setObj 7 (.int .i64 q.client)).setObj 8 (.int .i64 q.seq)).setObj 9 (.string q.key)).setObj 10 (.string q.who)).setObj 11 (.string q.tkey)).setObj 12 (.string q.twho)).setObj 13 (.int .i64 q.item)).setObj 14 (.int .i64 q.count)).setObj 15 (.int .i64 q.price)).setObj 16 (.bool q.buy)).setObj 17 (.int .i64 q.id)).setObj 5 (.bool true)).setObj 4 (.int .i64 0))
    rw [←hwd] at h
    have eV:(((((((((((((((gtV g av).setIfInBounds 6 (.int .i64 q.kind)).setIfInBounds 7 (.int .i64 q.client)).setIfInBounds 8 (.int .i64 q.seq)).setIfInBounds 9 (.string q.key)).setIfInBounds 10 (.string q.who)).setIfInBounds 11 (.string q.tkey)).setIfInBounds 12 (.string q.twho)).setIfInBounds 13 (.int .i64 q.item)).setIfInBounds 14 (.int .i64 q.count)).setIfInBounds 15 (.int .i64 q.price)).setIfInBounds 16 (.bool q.buy)).setIfInBounds 17 (.int .i64 q.id)).setIfInBounds 5 (.bool true)).setIfInBounds 4 (.int .i64 0))=gtV g1 av:=by
     rw [hg1]
     unfold gtV
     simp only [List.setIfInBounds_toArray,List.set_cons_zero,List.set_cons_succ]
    simp only [List.cons_append,List.nil_append] at h
    rw [eV] at h
    exact Lib.hid h
   have hnx:g1.next=g.next:=by rw [hg1]
   have hw3:IntKind.i64.wrap (g1.next+1)=g1.next+1:=by rw [IntKind.wrap_i64,hnx];have:=Hok.out.next;omega
   have Hg1:=Lib.hid hg1
   clear hwd S2 ol oc ofz pl pf c4 c5 c6 c7 c8 c9 c10 c11 c12 c13 c14 c15 c16 c17 hg1 hnx
   ((have hC:=HC.out);clear HC;subst hC)
   refine wp_hold fun C HC=>?_
   obtain ⟨pl,-,pf⟩:=S3.out.cellsN 0 rfl
   obtain ⟨c0,c1,c2,c3,c4,c5,c6,c7,c8,c9,c10,c11,c12,c13,c14,c15,c16,c17,c18⟩:=gbox (show wd.heap[p]?=some (.cells (gtV g1 av) 49 (0,0)) from S3.out.head)
   clear c0 c1 c3 c4 c5 c6 c7 c8 c9 c10 c11 c12 c13 c14 c15 c16 c17 c18
   go_wp2_with fail
   refine wp_name fun we hwe=>?_
   have S4:Hid (St W we (thObj (O+1) (.cells #[.int .i64 0,.int .i64 0,.int .i64 0,.string ⟨#[]⟩,.string ⟨#[]⟩,.string ⟨#[]⟩,.string ⟨#[]⟩,.int .i64 0,.int .i64 0,.int .i64 0,.bool false,.int .i64 0] 30 (0,0))::thObj O (.cells #[.int .i64 q.kind,.int .i64 q.client,.int .i64 q.seq,.string q.key,.string q.who,.string q.tkey,.string q.twho,.int .i64 q.item,.int .i64 q.count,.int .i64 q.price,.bool q.buy,.int .i64 q.id] 30 (0,0))::thG p (subG g o) av::L)):=by
    have h:=S3.out.setObj 2 (.int .i64 (g1.next+1))
    rw [←hwe] at h
    rw [Hyes.out.2.2,←Hq.out]
    have e:(gtV g1 av).setIfInBounds 2 (.int .i64 (g1.next+1))=gtV { g with op:=q,pend:=true,wait:=0,next:=g.next+1 } av:=by
     rw [Hg1.out]
     unfold gtV
     simp only [List.setIfInBounds_toArray,List.set_cons_zero,List.set_cons_succ]
    rw [e] at h
    exact Lib.hid ((h.pull (A:=[_])).perm (List.Perm.cons _ (List.Perm.swap _ _ _)))
   clear hwe S3 pl pf c2 hw3
   ((have hC:=HC.out);clear HC;subst hC)
   obtain ⟨z1,z2,z3⟩:=S4.out.cellsN 0 rfl
   obtain ⟨ol,oc,ofz⟩:=S4.out.cellsN 1 rfl
   go_wp2_with fail
   have S5:=(((((((((((((S4.out.setObj 0 (.int .i64 q.kind)).setObj 1 (.int .i64 q.client)).setObj 2 (.int .i64 q.seq)).setObj 3 (.string q.key)).setObj 4 (.string q.who)).setObj 5 (.string q.tkey)).setObj 6 (.string q.twho)).setObj 7 (.int .i64 q.item)).setObj 8 (.int .i64 q.count)).setObj 9 (.int .i64 q.price)).setObj 10 (.bool q.buy)).setObj 11 (.int .i64 q.id))).drop.drop
   refine bodyPost_ret (v:=.tuple #[.agg #[.int .i64 q.kind,.int .i64 q.client,.int .i64 q.seq,.string q.key,.string q.who,.string q.tkey,.string q.twho,.int .i64 q.item,.int .i64 q.count,.int .i64 q.price,.bool q.buy,.int .i64 q.id],.int .i64 0]) (by simp only [results,Try.results7];go_simp) rfl ?_
   unfold SubPost
   rw [Hyes.out.1,Hyes.out.2.1,←Hq.out]
   exact ⟨rfl,S5⟩
end Go.Proofs.Ytogamdaomdoapaa.G