/- Texts put together: WAn, WPl. -/
import Derived.Test.YtogamdaomdoapaaZa01
import Derived.Test.YtogamdaomdoapaaZa05
import Derived.Test.YtogamdaomdoapaaZa09
import Derived.Test.YtogamdaomdoapaaZa11
import Derived.Laws.CopyOwn
import Derived.Laws.Rows
namespace Go.Proofs.Ytogamdaomdoapaa
set_option maxRecDepth 20000
open Go.RowKit
set_option maxHeartbeats 4000000 in
theorem isCopy_any {d:Wd} {ms ds:Value} {V:Array Value} (hV:V=wdV d ms ds) (dl:Option Addr) (dc:Nat) (hds:ds=.slice dl d.data.length dc) (w:World) (hd:d.data.length≤9223372036854775807):Calls Try.prog 57 #[.agg V] w fun e w'=>e=.returned (.bool (copyW d))∧Below w.heap.size w w':=by
 obtain ⟨r,hr⟩:∃ r,r=copyW d:=⟨_,rfl⟩
 obtain ⟨z,hz⟩:∃ z,z=zonedW d:=⟨_,rfl⟩
 have Hzo:=Lib.hid (fun w=>zoned_v hV w)
 have hs:V.size=37:=by rw [hV];rfl
 have HV:=Lib.hid hV
 obtain ⟨n,hn⟩:∃ n,n=d.data.length:=⟨_,rfl⟩
 rw [←hn] at hds hd
 rw [←hz] at Hzo
 rw [←hr]
 have Hr:Hid (r=(z&&decide (1≤d.size∧d.size≤524288∧0≤d.off∧d.off≤d.size∧(n:Int)≤d.size - d.off∧(n:Int)≤512)&&isB d.sf d.st)):=Lib.hid (by rw [hr,hz,hn];rfl)
 clear hr hz hn hV
 go_enter Try.func57,Try.ntmps57
 ((refine wp_hold fun C HC=>?_);(go_wp2_with fail);(refine wp_name fun wa hwa=>?_;have wa_s0:=sg w.heap.size hwa;have wa_b:Below w.heap.size w wa:=(by rw [hwa];exact bg);have wa_bh:wa.heap[w.heap.size]?=some (.cells V 64 (0,0)):=(by rw [hwa];exact heap_alloc_new w _);clear hwa);(obtain ⟨c0,c1,c2,c3,c4,c5,c6,c7,c8,c9,c10,c11,c12,c13,c14,c15,c16,c17,c18,c19,c20,c21,c22,c23,c24,c25,c26,c27,c28,c29,c30,c31,c32,c33,c34,c35,c36⟩:=wbox (show wa.heap[w.heap.size]?=some (.cells (wdV d ms ds) 64 (0,0)) from (by rw [←HV.out];exact wa_bh)));(have hC:=HC.out);clear HC;subst hC)
 subst hds
 refine wp_seq ?_
 refine wp_region_lit ?_
 (refine wpList_load_row rfl 64 _ rfl w.heap.size rfl _ _ _ _ wa_bh Try.underlying64 rfl (by rw [hs];kernel_rfl) ?_)
 go_wp2_with fail
 refine (Hzo.out _).mono ?_
 (rintro e w1 ⟨rfl,w1_h⟩;obtain ⟨w1_hc,w1_hf⟩:=bcell w1_h;have w1_z:=w1_h.size;have w1_b:=wa_b.trans (w1_h.mono (by have:=wa_b.size;omega));have w1_le:=w1_b.size;have w1_s0:w.heap.size<w1.heap.size:=(by omega);clear w1_h)
 cases z with
 | false =>
  go_wp2_with fail
  go_ret
  exact ⟨by rw [Hr.out];rfl,w1_b⟩
 | true =>
  go_wp2_with fail
  all_goals try (go_ret;refine ⟨?_,w1_b⟩;rw [Hr.out];congr 2;simp;omega)
  refine (span_is _ _ _).mono ?_
  rintro e w2 ⟨rfl,h2⟩
  go_wp2_with fail
  go_ret
  refine ⟨?_,w1_b.trans (h2.mono w1_b.size)⟩
  rw [Hr.out,decide_eq_true (by refine ⟨?_,?_,?_,?_,?_,?_⟩<;>omega)]
  rfl
theorem encrep_e (r:Rp) (w:World) (m:Bool) (hm:mayR r=m):Calls Try.prog 64 #[.agg #[.int .i64 r.err,.int .i64 r.id,.int .i64 r.i.a,.int .i64 r.i.b,.int .i64 r.i.c,.int .i64 r.i.d]] w fun e w'=>Below w.heap.size w w'∧∃ v,∃ ev:Int,e=.returned (.tuple #[v,.int .i64 ev])∧(ev==0)=m:=by
 cases m with
 | true =>
  refine (encrep_yes r w hm).mono ?_
  rintro e w' ⟨ao,cap,rfl,-,hb⟩
  exact ⟨hb,_,_,rfl,rfl⟩
 | false =>
  refine (encrep_no r w hm).mono ?_
  rintro e w' ⟨rfl,hb⟩
  exact ⟨hb,_,_,rfl,rfl⟩
set_option maxHeartbeats 4000000 in
theorem isAnswer_any {d:Wd} {ms ds:Value} {V:Array Value} (hV:V=wdV d ms ds) (w:World):Calls Try.prog 56 #[.agg V] w fun e w'=>e=.returned (.bool (ansW d))∧Below w.heap.size w w':=by
 have hs:V.size=37:=by rw [hV];rfl
 have HV:=Lib.hid hV
 clear hV
 obtain ⟨r,hr⟩:∃ r,r=ansW d:=⟨_,rfl⟩
 rw [←hr]
 obtain ⟨q,hq⟩:∃ q,q=eqR d.op (headR d.op):=⟨_,rfl⟩
 obtain ⟨h,hh⟩:∃ h,h=numW d.host:=⟨_,rfl⟩
 obtain ⟨m,hm⟩:∃ m,m=mayR d.rep:=⟨_,rfl⟩
 obtain ⟨z,hz⟩:∃ z,z=eqRp d.rep zRp:=⟨_,rfl⟩
 have heq1:=fun w=>eql_api.Op d.op (headR d.op) w q hq.symm
 have heq2:=fun w=>eql_rep d.rep zRp w z hz.symm
 have Hnum:=Lib.hid (fun w=>isNumW d.host w)
 have Henc:=Lib.hid (fun w=>encrep_e d.rep w m hm.symm)
 rw [←hh] at Hnum
 have Hr:Hid (r=(q&&decide (1≤d.op.kind∧d.op.kind≤7∧1≤d.op.client∧d.op.client≤1048576∧1≤d.op.seq∧d.op.seq≤1099511627776∧0≤d.err∧d.err≤19)&&h&&m&&(decide (d.err=0) || z))):=Lib.hid (by rw [hr,hq,hh,hm,hz];rfl)
 simp only [headR,rq0] at heq1
 simp only [zRp] at heq2
 clear hr hq hh hm hz
 go_enter Try.func56,Try.ntmps56
 ((refine wp_hold fun C HC=>?_);(go_wp2_with fail);(refine wp_name fun wa hwa=>?_;have wa_s0:=sg w.heap.size hwa;have wa_b:Below w.heap.size w wa:=(by rw [hwa];exact bg);have wa_bh:wa.heap[w.heap.size]?=some (.cells V 64 (0,0)):=(by rw [hwa];exact heap_alloc_new w _);clear hwa);(obtain ⟨c0,c1,c2,c3,c4,c5,c6,c7,c8,c9,c10,c11,c12,c13,c14,c15,c16,c17,c18,c19,c20,c21,c22,c23,c24,c25,c26,c27,c28,c29,c30,c31,c32,c33,c34,c35,c36⟩:=wbox (show wa.heap[w.heap.size]?=some (.cells (wdV d ms ds) 64 (0,0)) from (by rw [←HV.out];exact wa_bh)));(have hC:=HC.out);clear HC;subst hC)
 refine wp_hold fun C2 HC2=>?_
 go_wp2_with fail
 refine (Henc.out _).mono ?_
 rintro e w1 ⟨w1_h,v,ev,rfl,hev⟩
 have Hev:=Lib.hid hev
 clear hev
 ((have w1_bh:=(w1_h.block _ wa_s0).trans wa_bh);(have w1_s0:w.heap.size<w1.heap.size:=Nat.lt_of_lt_of_le wa_s0 w1_h.size);(have w1_b:=wa_b.trans (w1_h.mono wa_b.size));(clear c0 c1 c2 c3 c4 c5 c6 c7 c8 c9 c10 c11 c12 c13 c14 c15 c16 c17 c18 c19 c20 c21 c22 c23 c24 c25 c26 c27 c28 c29 c30 c31 c32 c33 c34 c35 c36);(obtain ⟨c0,c1,c2,c3,c4,c5,c6,c7,c8,c9,c10,c11,c12,c13,c14,c15,c16,c17,c18,c19,c20,c21,c22,c23,c24,c25,c26,c27,c28,c29,c30,c31,c32,c33,c34,c35,c36⟩:=wbox (show w1.heap[w.heap.size]?=some (.cells (wdV d ms ds) 64 (0,0)) from (by rw [←HV.out];exact w1_bh)));clear w1_h)
 clear wa_bh
 go_wp2_with fail
 (have hC:=HC2.out);clear HC2;subst hC
 refine wp_hold fun C3 HC3=>?_
 go_wp2_with fail
 refine wp_name fun w2 hw2=>?_
 have w2_h:Below w1.heap.size w1 w2:=by rw [hw2];exact (Below.refl _ _).alloc (Nat.le_refl _) _
 have w2_n:w2.heap[w1.heap.size]?=some _:=(by rw [hw2];exact heap_alloc_new w1 _)
 have b0:=cell_of_row w2 w1.heap.size 0 _ _ _ w2_n
 have b1:=cell_of_row w2 w1.heap.size 1 _ _ _ w2_n
 have b2:=cell_of_row w2 w1.heap.size 2 _ _ _ w2_n
 have b3:=cell_of_row w2 w1.heap.size 3 _ _ _ w2_n
 have b4:=cell_of_row w2 w1.heap.size 4 _ _ _ w2_n
 have b5:=cell_of_row w2 w1.heap.size 5 _ _ _ w2_n
 have b6:=cell_of_row w2 w1.heap.size 6 _ _ _ w2_n
 have b7:=cell_of_row w2 w1.heap.size 7 _ _ _ w2_n
 have b8:=cell_of_row w2 w1.heap.size 8 _ _ _ w2_n
 have b9:=cell_of_row w2 w1.heap.size 9 _ _ _ w2_n
 have b10:=cell_of_row w2 w1.heap.size 10 _ _ _ w2_n
 have b11:=cell_of_row w2 w1.heap.size 11 _ _ _ w2_n
 ((have w2_bh:=(w2_h.block _ w1_s0).trans w1_bh);(have w2_s0:w.heap.size<w2.heap.size:=Nat.lt_of_lt_of_le w1_s0 w2_h.size);(have w2_b:=w1_b.trans (w2_h.mono w1_b.size));(clear c0 c1 c2 c3 c4 c5 c6 c7 c8 c9 c10 c11 c12 c13 c14 c15 c16 c17 c18 c19 c20 c21 c22 c23 c24 c25 c26 c27 c28 c29 c30 c31 c32 c33 c34 c35 c36);(obtain ⟨c0,c1,c2,c3,c4,c5,c6,c7,c8,c9,c10,c11,c12,c13,c14,c15,c16,c17,c18,c19,c20,c21,c22,c23,c24,c25,c26,c27,c28,c29,c30,c31,c32,c33,c34,c35,c36⟩:=wbox (show w2.heap[w.heap.size]?=some (.cells (wdV d ms ds) 64 (0,0)) from (by rw [←HV.out];exact w2_bh)));clear w2_h)
 clear w1_bh w2_n hw2
 (have hC:=HC3.out);clear HC3;subst hC
 clear c0 c1 c2 c3 c4 c5 c8 c9 c28 c29 c30 c31 c32 c33 c34 c35 c36 w2_bh w2_s0
 have he0:e0=⟨#[]⟩:=rfl
 rw [he0] at heq1
 clear he0
 refine wp_seq ?_
 refine wp_region_lit ?_
 refine list_hold 4 fun L HL=>?_
 simp only [List.append_eq,List.cons_append,List.nil_append,List.take_succ_cons,List.take_zero]
 go_wp2_with fail
 clear heq1 c10 c11 c12 c13 c14 c15 c16 c17 c18 c19 c20 c21 b3 b4 b5 b6 b7 b8 b9 b10 b11
 generalize Value.agg #[.int .i64 d.op.kind,.int .i64 d.op.client,.int .i64 d.op.seq,.string d.op.key,.string d.op.who,.string d.op.tkey,.string d.op.twho,.int .i64 d.op.item,.int .i64 d.op.count,.int .i64 d.op.price,.bool d.op.buy,.int .i64 d.op.id]=j1
 generalize Value.agg #[.int .i64 d.rep.err,.int .i64 d.rep.id,.int .i64 d.rep.i.a,.int .i64 d.rep.i.b,.int .i64 d.rep.i.c,.int .i64 d.rep.i.d]=j2
 (have hL:=HL.out);clear HL;subst hL
 simp only [List.append_eq,List.cons_append,List.nil_append,List.drop_succ_cons,List.drop_zero]
 have hev:=Hev.out
 cases q with
 | false =>
  go_wp2_with fail
  go_ret
  exact ⟨by rw [Hr.out];rfl,w2_b⟩
 | true =>
  cases h with
  | false =>
   go_wp2_with fail
   all_goals try (go_ret;refine ⟨?_,w2_b⟩;rw [Hr.out,decide_eq_false (by omega)];rfl)
   refine (Hnum.out _).mono ?_
   rintro e w' ⟨rfl,rfl⟩
   go_wp2_with fail
   go_ret
   refine ⟨?_,w2_b⟩
   rw [Hr.out,decide_eq_true (by refine ⟨?_,?_,?_,?_,?_,?_,?_,?_⟩<;>omega)]
   rfl
  | true =>
   go_wp2_with fail
   all_goals try (go_ret;refine ⟨?_,w2_b⟩;rw [Hr.out,decide_eq_false (by omega)];rfl)
   refine (Hnum.out _).mono ?_
   rintro e w' ⟨rfl,rfl⟩
   have hm8:Hid (1≤d.op.kind∧d.op.kind≤7∧1≤d.op.client∧d.op.client≤1048576∧1≤d.op.seq∧d.op.seq≤1099511627776∧0≤d.err∧d.err≤19):=Lib.hid (by refine ⟨?_,?_,?_,?_,?_,?_,?_,?_⟩<;>omega)
   cases m with
   | false =>
    go_wp2_with fail
    go_ret
    refine ⟨?_,w2_b⟩
    rw [Hr.out,decide_eq_true hm8.out]
    rfl
   | true =>
    by_cases hz0:d.err=0
    ·have hz1:(d.err==0)=true:=by rw [hz0];rfl
     go_wp2_with fail
     go_ret
     refine ⟨?_,w2_b⟩
     rw [Hr.out,decide_eq_true hm8.out,decide_eq_true hz0]
     rfl
    ·have hz1:(d.err==0)=false:=by rw [beq_eq_false_iff_ne];exact hz0
     cases z with
     | false =>
      go_wp2_with fail
      go_ret
      refine ⟨?_,w2_b⟩
      rw [Hr.out,decide_eq_true hm8.out,decide_eq_false hz0]
      rfl
     | true =>
      go_wp2_with fail
      go_ret
      refine ⟨?_,w2_b⟩
      rw [Hr.out,decide_eq_true hm8.out,decide_eq_false hz0]
      rfl
end Go.Proofs.Ytogamdaomdoapaa
namespace Go.Proofs.Ytogamdaomdoapaa
set_option maxRecDepth 20000
open Go.RowKit
set_option maxHeartbeats 4000000 in
theorem plain_any (d:Wd) (ms ds:Value) (w:World):Calls Try.prog 59 #[.agg #[.int .i64 d.kind,.int .i64 d.zone,.int .i64 d.epoch,.int .i64 d.index,.int .i64 d.size,.int .i64 d.off,.int .i64 d.host,.int .i64 d.err,.string d.sf,.string d.st,.int .i64 d.op.kind,.int .i64 d.op.client,.int .i64 d.op.seq,.string d.op.key,.string d.op.who,.string d.op.tkey,.string d.op.twho,.int .i64 d.op.item,.int .i64 d.op.count,.int .i64 d.op.price,.bool d.op.buy,.int .i64 d.op.id,.int .i64 d.rep.err,.int .i64 d.rep.id,.int .i64 d.rep.i.a,.int .i64 d.rep.i.b,.int .i64 d.rep.i.c,.int .i64 d.rep.i.d,.int .i64 d.mp.ver,.int .i64 d.mp.next,ms,.int .i64 d.ch.kind,.int .i64 d.ch.zone,.int .i64 d.ch.epoch,.int .i64 d.ch.tt,.string d.ch.key,ds]] w fun e w'=>e=.returned (.agg #[.int .i64 d.zone,.int .i64 d.epoch,.int .i64 d.index,.int .i64 d.size,.int .i64 d.off,.int .i64 d.host,.int .i64 d.err,.string d.sf,.string d.st,.int .i64 d.op.kind,.int .i64 d.op.client,.int .i64 d.op.seq,.string d.op.key,.string d.op.who,.string d.op.tkey,.string d.op.twho,.int .i64 d.op.item,.int .i64 d.op.count,.int .i64 d.op.price,.bool d.op.buy,.int .i64 d.op.id,.int .i64 d.rep.err,.int .i64 d.rep.id,.int .i64 d.rep.i.a,.int .i64 d.rep.i.b,.int .i64 d.rep.i.c,.int .i64 d.rep.i.d,.int .i64 d.ch.kind,.int .i64 d.ch.zone,.int .i64 d.ch.epoch,.int .i64 d.ch.tt,.string d.ch.key])∧Below w.heap.size w w':=by
 go_enter Try.func59,Try.ntmps59
 refine wp_holdQ fun R HR=>?_
 refine wp_hold fun C HC=>?_
 go_wp2_with fail
 (refine wp_name fun wa hwa=>?_;have wa_s0:=sg w.heap.size hwa;have wa_s1:=sg (w.heap.size+1) hwa;obtain ⟨wa_c0,wa_c1,wa_c2,wa_c3,wa_c4,wa_c5,wa_c6,wa_c7,wa_c8,wa_c9,wa_c10,wa_c11⟩:=kz12 hwa w.heap.size (.int .i64 d.kind) (.int .i64 d.zone) (.int .i64 d.epoch) (.int .i64 d.index) (.int .i64 d.size) (.int .i64 d.off) (.int .i64 d.host) (.int .i64 d.err) (.string d.sf) (.string d.st) (.int .i64 d.op.kind) (.int .i64 d.op.client);obtain ⟨wa_c12,wa_c13,wa_c14,wa_c15,wa_c16,wa_c17,wa_c18,wa_c19,wa_c20,wa_c21,wa_c22,wa_c23⟩:=kb12 hwa w.heap.size 12 (.int .i64 d.op.seq) 13 (.string d.op.key) 14 (.string d.op.who) 15 (.string d.op.tkey) 16 (.string d.op.twho) 17 (.int .i64 d.op.item) 18 (.int .i64 d.op.count) 19 (.int .i64 d.op.price) 20 (.bool d.op.buy) 21 (.int .i64 d.op.id) 22 (.int .i64 d.rep.err) 23 (.int .i64 d.rep.id);obtain ⟨wa_c24,wa_c25,wa_c26,wa_c27,wa_c28,wa_c29,wa_c30,wa_c31,wa_c32,wa_c33,wa_c34,wa_c35⟩:=kb12 hwa w.heap.size 24 (.int .i64 d.rep.i.a) 25 (.int .i64 d.rep.i.b) 26 (.int .i64 d.rep.i.c) 27 (.int .i64 d.rep.i.d) 28 (.int .i64 d.mp.ver) 29 (.int .i64 d.mp.next) 30 ms 31 (.int .i64 d.ch.kind) 32 (.int .i64 d.ch.zone) 33 (.int .i64 d.ch.epoch) 34 (.int .i64 d.ch.tt) 35 (.string d.ch.key);obtain wa_c36:=kk1 hwa w.heap.size 36 ds;have wa_b:Below w.heap.size w wa:=(by rw [hwa];exact bg);have wa_h:wa.heap[w.heap.size+1]?=some (.cells #[.int .i64 0,.int .i64 0,.int .i64 0,.int .i64 0,.int .i64 0,.int .i64 0,.int .i64 0,.string ⟨#[]⟩,.string ⟨#[]⟩,.int .i64 0,.int .i64 0,.int .i64 0,.string ⟨#[]⟩,.string ⟨#[]⟩,.string ⟨#[]⟩,.string ⟨#[]⟩,.int .i64 0,.int .i64 0,.int .i64 0,.bool false,.int .i64 0,.int .i64 0,.int .i64 0,.int .i64 0,.int .i64 0,.int .i64 0,.int .i64 0,.int .i64 0,.int .i64 0,.int .i64 0,.int .i64 0,.string ⟨#[]⟩] 108 (0,0)):=(by rw [hwa];exact heap_alloc2_new w _ _);clear hwa)
 (have hC:=HC.out);clear HC;subst hC
 refine wp_seq ?_
 refine wp_region_lit ?_
 refine list_hold 22 fun L HL=>?_
 simp only [List.take_succ_cons,List.take_zero,List.cons_append,List.nil_append]
 go_wp2_with fail
 (have hL:=HL.out);clear HL;subst hL
 simp only [List.drop_succ_cons,List.drop_zero]
 refine list_hold 1 fun L HL=>?_
 simp only [List.take_succ_cons,List.take_zero,List.cons_append,List.nil_append]
 go_wp2_with fail
 (have hL:=HL.out);clear HL;subst hL
 simp only [List.drop_succ_cons,List.drop_zero]
 refine wpList_store_row rfl 108 _ _ rfl (w.heap.size+1) #[.int .i64 d.zone,.int .i64 d.epoch,.int .i64 d.index,.int .i64 d.size,.int .i64 d.off,.int .i64 d.host,.int .i64 d.err,.string d.sf,.string d.st,.int .i64 d.op.kind,.int .i64 d.op.client,.int .i64 d.op.seq,.string d.op.key,.string d.op.who,.string d.op.tkey,.string d.op.twho,.int .i64 d.op.item,.int .i64 d.op.count,.int .i64 d.op.price,.bool d.op.buy,.int .i64 d.op.id,.int .i64 d.rep.err,.int .i64 d.rep.id,.int .i64 d.rep.i.a,.int .i64 d.rep.i.b,.int .i64 d.rep.i.c,.int .i64 d.rep.i.d,.int .i64 d.ch.kind,.int .i64 d.ch.zone,.int .i64 d.ch.epoch,.int .i64 d.ch.tt,.string d.ch.key] rfl rfl 108 _ wa_h (by kernel_rfl) rfl (by simp [Value.oneCell']) ?_
 (have hR:=HR.out);clear HR;subst hR
 go_wp2_with fail
 refine bodyPost_ret (results_cell_row rfl _ _ (w.heap.size+1) 108 _ (0,0) _ rfl (setRow_heap _ _ _ _ _ _ wa_h) Try.underlying108 rfl (by kernel_rfl)) rfl ⟨rfl,below_setRow wa_b (by omega) _⟩
end Go.Proofs.Ytogamdaomdoapaa