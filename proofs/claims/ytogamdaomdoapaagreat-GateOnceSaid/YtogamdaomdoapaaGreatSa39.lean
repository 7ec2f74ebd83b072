/- Texts put together: RMa3, RMa4, RMa5. -/
import Derived.Test.YtogamdaomdoapaaGreatSa37
namespace Go.Proofs.YtogamdaomdoapaaGreat
open Go.RowKit
set_option maxRecDepth 100000 in
set_option maxHeartbeats 8000000 in
theorem rmay_3 (o:Rq) (w:World) (r:Bool) (c1:1≤o.client) (c2:o.client≤1048576) (c3:1≤o.seq) (c4:o.seq≤1099511627776) (hp:placeB o.key o.who=true) (hr:mayO { o with kind:=3 }=r) :
 Calls Tryz.prog 30 #[.agg #[.int .i64 3,.int .i64 o.client,.int .i64 o.seq,.string o.key,.string o.who,.string o.tkey,.string o.twho,.int .i64 o.item,.int .i64 o.count,.int .i64 o.price,.bool o.buy,.int .i64 o.id]] w fun e w'=>e=.returned (.bool r)∧Below w.heap.size w w':=by
 have Hp:=Lib.hid hp
 have hkind:kindO { o with kind:=3 }=ordO { o with kind:=3 }:=by simp [kindO]
 have hr2:kindO { o with kind:=3 }=r:=by rw [←hr];simp [mayO,hp,c1,c2,c3,c4]
 rw [hkind] at hr2
 clear hp hr hkind
 have hr:=hr2
 simp only [ordO,cntO] at hr
 clear hr2
 have d2:decide (1048576<o.client)=false:=by rw [decide_eq_false_iff_not];omega
 have d1:decide (o.client<1)=false:=by rw [decide_eq_false_iff_not];omega
 have d3:decide (o.seq<1)=false:=by rw [decide_eq_false_iff_not];omega
 have d4:decide (1099511627776<o.seq)=false:=by rw [decide_eq_false_iff_not];omega
 by_cases q0:1≤o.item
 ·have b0:decide (1≤o.item)=true:=by rw [decide_eq_true_eq];exact q0
  by_cases q1:o.item≤3
  ·have b1:decide (o.item≤3)=true:=by rw [decide_eq_true_eq];exact q1
   by_cases q2:1≤o.count
   ·have b2:decide (1≤o.count)=true:=by rw [decide_eq_true_eq];exact q2
    by_cases q3:o.count≤1048576
    ·have b3:decide (o.count≤1048576)=true:=by rw [decide_eq_true_eq];exact q3
     by_cases q4:1≤o.price
     ·have b4:decide (1≤o.price)=true:=by rw [decide_eq_true_eq];exact q4
      by_cases q5:o.price≤1024
      ·have b5:decide (o.price≤1024)=true:=by rw [decide_eq_true_eq];exact q5
       have p1:o.item<4:=by omega
       have p0:0≤o.item:=by omega
       have heq:=fun w=>eql_api.Op ⟨3,o.client,o.seq,o.key,o.who,⟨#[]⟩,⟨#[]⟩,o.item,o.count,o.price,o.buy,0⟩ { o with kind:=3 } w r (by rw [eqR_comm,←hr];simp [eqR,q0,p0,p1,q2,q3,q4,q5])
       simp only at heq
       clear hr
       ((go_enter Tryz.func30,Tryz.ntmps30;(go_wp2_with fail);(refine calls_name fun wa hwa=>?_;have wa_s0:=sg w.heap.size hwa;obtain ⟨wa_c0,wa_c1,wa_c2,wa_c3,wa_c4,wa_c5,wa_c6,wa_c7,wa_c8,wa_c9,wa_c10,wa_c11⟩:=kz12 hwa w.heap.size (.int .i64 3) (.int .i64 o.client) (.int .i64 o.seq) (.string o.key) (.string o.who) (.string o.tkey) (.string o.twho) (.int .i64 o.item) (.int .i64 o.count) (.int .i64 o.price) (.bool o.buy) (.int .i64 o.id);have wa_b:Below w.heap.size w wa:=(by rw [hwa];exact bg);clear hwa);(refine (rplace_any o.key o.who _ true Hp.out).mono ?_);(rintro e w1 ⟨rfl,w1_h⟩;obtain ⟨w1_hc,w1_hf⟩:=bcell w1_h;have w1_z:=w1_h.size;have w1_b:=wa_b.trans (w1_h.mono (by have:=wa_b.size;omega));have w1_le:=w1_b.size;have w1_s0:w.heap.size<w1.heap.size:=(by omega);clear w1_h);(go_wp2_with fail));(refine wp_name fun wb hwb=>?_;have wb_s0:=sg w.heap.size hwb;have wb_s1:=sg w1.heap.size hwb;obtain ⟨wb_c0,wb_c1,wb_c2,wb_c3,wb_c4,wb_c5,wb_c6,wb_c7,wb_c8,wb_c9,wb_c10,wb_c11⟩:=kz12 hwb w.heap.size (.int .i64 3) (.int .i64 o.client) (.int .i64 o.seq) (.string o.key) (.string o.who) (.string o.tkey) (.string o.twho) (.int .i64 o.item) (.int .i64 o.count) (.int .i64 o.price) (.bool o.buy) (.int .i64 o.id);obtain ⟨wb_c12,wb_c13,wb_c14,wb_c15,wb_c16,wb_c17,wb_c18,wb_c19,wb_c20,wb_c21,wb_c22,wb_c23⟩:=kz12 hwb w1.heap.size (.int .i64 3) (.int .i64 o.client) (.int .i64 o.seq) (.string o.key) (.string o.who) (.string ⟨#[]⟩) (.string ⟨#[]⟩) (.int .i64 0) (.int .i64 0) (.int .i64 0) (.bool false) (.int .i64 0);obtain ⟨wb_f17,wb_f18,wb_f19,wb_f20,wb_f21,wb_f22,wb_f23⟩:=ff7 hwb w1.heap.size 5 w1.heap.size 6 w1.heap.size 7 w1.heap.size 8 w1.heap.size 9 w1.heap.size 10 w1.heap.size 11;have wb_b:Below w.heap.size w wb:=(by rw [hwb];exact bg);clear hwb);(have hne:¬w.heap.size=w1.heap.size:=(by omega));go_region;(go_wp2_with fail))
       go_ret
       exact ⟨rfl,bg⟩
      ·have b5:decide (o.price≤1024)=false:=by rw [decide_eq_false_iff_not];exact q5
       have hrf:r=false:=by rw [←hr];simp;omega
       clear hr
       subst hrf
       ((go_enter Tryz.func30,Tryz.ntmps30;(go_wp2_with fail);(refine calls_name fun wa hwa=>?_;have wa_s0:=sg w.heap.size hwa;obtain ⟨wa_c0,wa_c1,wa_c2,wa_c3,wa_c4,wa_c5,wa_c6,wa_c7,wa_c8,wa_c9,wa_c10,wa_c11⟩:=kz12 hwa w.heap.size (.int .i64 3) (.int .i64 o.client) (.int .i64 o.seq) (.string o.key) (.string o.who) (.string o.tkey) (.string o.twho) (.int .i64 o.item) (.int .i64 o.count) (.int .i64 o.price) (.bool o.buy) (.int .i64 o.id);have wa_b:Below w.heap.size w wa:=(by rw [hwa];exact bg);clear hwa);(refine (rplace_any o.key o.who _ true Hp.out).mono ?_);(rintro e w1 ⟨rfl,w1_h⟩;obtain ⟨w1_hc,w1_hf⟩:=bcell w1_h;have w1_z:=w1_h.size;have w1_b:=wa_b.trans (w1_h.mono (by have:=wa_b.size;omega));have w1_le:=w1_b.size;have w1_s0:w.heap.size<w1.heap.size:=(by omega);clear w1_h);(go_wp2_with fail));(refine wp_name fun wb hwb=>?_;have wb_s0:=sg w.heap.size hwb;have wb_s1:=sg w1.heap.size hwb;obtain ⟨wb_c0,wb_c1,wb_c2,wb_c3,wb_c4,wb_c5,wb_c6,wb_c7,wb_c8,wb_c9,wb_c10,wb_c11⟩:=kz12 hwb w.heap.size (.int .i64 3) (.int .i64 o.client) (.int .i64 o.seq) (.string o.key) (.string o.who) (.string o.tkey) (.string o.twho) (.int .i64 o.item) (.int .i64 o.count) (.int .i64 o.price) (.bool o.buy) (.int .i64 o.id);obtain ⟨wb_c12,wb_c13,wb_c14,wb_c15,wb_c16,wb_c17,wb_c18,wb_c19,wb_c20,wb_c21,wb_c22,wb_c23⟩:=kz12 hwb w1.heap.size (.int .i64 3) (.int .i64 o.client) (.int .i64 o.seq) (.string o.key) (.string o.who) (.string ⟨#[]⟩) (.string ⟨#[]⟩) (.int .i64 0) (.int .i64 0) (.int .i64 0) (.bool false) (.int .i64 0);obtain ⟨wb_f17,wb_f18,wb_f19,wb_f20,wb_f21,wb_f22,wb_f23⟩:=ff7 hwb w1.heap.size 5 w1.heap.size 6 w1.heap.size 7 w1.heap.size 8 w1.heap.size 9 w1.heap.size 10 w1.heap.size 11;have wb_b:Below w.heap.size w wb:=(by rw [hwb];exact bg);clear hwb);(have hne:¬w.heap.size=w1.heap.size:=(by omega));go_region;(go_wp2_with fail))
       go_ret
       exact ⟨rfl,bg⟩
     ·have b4:decide (1≤o.price)=false:=by rw [decide_eq_false_iff_not];exact q4
      have hrf:r=false:=by rw [←hr];simp;omega
      clear hr
      subst hrf
      ((go_enter Tryz.func30,Tryz.ntmps30;(go_wp2_with fail);(refine calls_name fun wa hwa=>?_;have wa_s0:=sg w.heap.size hwa;obtain ⟨wa_c0,wa_c1,wa_c2,wa_c3,wa_c4,wa_c5,wa_c6,wa_c7,wa_c8,wa_c9,wa_c10,wa_c11⟩:=kz12 hwa w.heap.size (.int .i64 3) (.int .i64 o.client) (.int .i64 o.seq) (.string o.key) (.string o.who) (.string o.tkey) (.string o.twho) (.int .i64 o.item) (.int .i64 o.count) (.int .i64 o.price) (.bool o.buy) (.int .i64 o.id);have wa_b:Below w.heap.size w wa:=(by rw [hwa];exact bg);clear hwa);(refine (rplace_any o.key o.who _ true Hp.out).mono ?_);(rintro e w1 ⟨rfl,w1_h⟩;obtain ⟨w1_hc,w1_hf⟩:=bcell w1_h;have w1_z:=w1_h.size;have w1_b:=wa_b.trans (w1_h.mono (by have:=wa_b.size;omega));have w1_le:=w1_b.size;have w1_s0:w.heap.size<w1.heap.size:=(by omega);clear w1_h);(go_wp2_with fail));(refine wp_name fun wb hwb=>?_;have wb_s0:=sg w.heap.size hwb;have wb_s1:=sg w1.heap.size hwb;obtain ⟨wb_c0,wb_c1,wb_c2,wb_c3,wb_c4,wb_c5,wb_c6,wb_c7,wb_c8,wb_c9,wb_c10,wb_c11⟩:=kz12 hwb w.heap.size (.int .i64 3) (.int .i64 o.client) (.int .i64 o.seq) (.string o.key) (.string o.who) (.string o.tkey) (.string o.twho) (.int .i64 o.item) (.int .i64 o.count) (.int .i64 o.price) (.bool o.buy) (.int .i64 o.id);obtain ⟨wb_c12,wb_c13,wb_c14,wb_c15,wb_c16,wb_c17,wb_c18,wb_c19,wb_c20,wb_c21,wb_c22,wb_c23⟩:=kz12 hwb w1.heap.size (.int .i64 3) (.int .i64 o.client) (.int .i64 o.seq) (.string o.key) (.string o.who) (.string ⟨#[]⟩) (.string ⟨#[]⟩) (.int .i64 0) (.int .i64 0) (.int .i64 0) (.bool false) (.int .i64 0);obtain ⟨wb_f17,wb_f18,wb_f19,wb_f20,wb_f21,wb_f22,wb_f23⟩:=ff7 hwb w1.heap.size 5 w1.heap.size 6 w1.heap.size 7 w1.heap.size 8 w1.heap.size 9 w1.heap.size 10 w1.heap.size 11;have wb_b:Below w.heap.size w wb:=(by rw [hwb];exact bg);clear hwb);(have hne:¬w.heap.size=w1.heap.size:=(by omega));go_region;(go_wp2_with fail))
      go_ret
      exact ⟨rfl,bg⟩
    ·have b3:decide (o.count≤1048576)=false:=by rw [decide_eq_false_iff_not];exact q3
     have hrf:r=false:=by rw [←hr];simp;omega
     clear hr
     subst hrf
     ((go_enter Tryz.func30,Tryz.ntmps30;(go_wp2_with fail);(refine calls_name fun wa hwa=>?_;have wa_s0:=sg w.heap.size hwa;obtain ⟨wa_c0,wa_c1,wa_c2,wa_c3,wa_c4,wa_c5,wa_c6,wa_c7,wa_c8,wa_c9,wa_c10,wa_c11⟩:=kz12 hwa w.heap.size (.int .i64 3) (.int .i64 o.client) (.int .i64 o.seq) (.string o.key) (.string o.who) (.string o.tkey) (.string o.twho) (.int .i64 o.item) (.int .i64 o.count) (.int .i64 o.price) (.bool o.buy) (.int .i64 o.id);have wa_b:Below w.heap.size w wa:=(by rw [hwa];exact bg);clear hwa);(refine (rplace_any o.key o.who _ true Hp.out).mono ?_);(rintro e w1 ⟨rfl,w1_h⟩;obtain ⟨w1_hc,w1_hf⟩:=bcell w1_h;have w1_z:=w1_h.size;have w1_b:=wa_b.trans (w1_h.mono (by have:=wa_b.size;omega));have w1_le:=w1_b.size;have w1_s0:w.heap.size<w1.heap.size:=(by omega);clear w1_h);(go_wp2_with fail));(refine wp_name fun wb hwb=>?_;have wb_s0:=sg w.heap.size hwb;have wb_s1:=sg w1.heap.size hwb;obtain ⟨wb_c0,wb_c1,wb_c2,wb_c3,wb_c4,wb_c5,wb_c6,wb_c7,wb_c8,wb_c9,wb_c10,wb_c11⟩:=kz12 hwb w.heap.size (.int .i64 3) (.int .i64 o.client) (.int .i64 o.seq) (.string o.key) (.string o.who) (.string o.tkey) (.string o.twho) (.int .i64 o.item) (.int .i64 o.count) (.int .i64 o.price) (.bool o.buy) (.int .i64 o.id);obtain ⟨wb_c12,wb_c13,wb_c14,wb_c15,wb_c16,wb_c17,wb_c18,wb_c19,wb_c20,wb_c21,wb_c22,wb_c23⟩:=kz12 hwb w1.heap.size (.int .i64 3) (.int .i64 o.client) (.int .i64 o.seq) (.string o.key) (.string o.who) (.string ⟨#[]⟩) (.string ⟨#[]⟩) (.int .i64 0) (.int .i64 0) (.int .i64 0) (.bool false) (.int .i64 0);obtain ⟨wb_f17,wb_f18,wb_f19,wb_f20,wb_f21,wb_f22,wb_f23⟩:=ff7 hwb w1.heap.size 5 w1.heap.size 6 w1.heap.size 7 w1.heap.size 8 w1.heap.size 9 w1.heap.size 10 w1.heap.size 11;have wb_b:Below w.heap.size w wb:=(by rw [hwb];exact bg);clear hwb);(have hne:¬w.heap.size=w1.heap.size:=(by omega));go_region;(go_wp2_with fail))
     go_ret
     exact ⟨rfl,bg⟩
   ·have b2:decide (1≤o.count)=false:=by rw [decide_eq_false_iff_not];exact q2
    have hrf:r=false:=by rw [←hr];simp;omega
    clear hr
    subst hrf
    ((go_enter Tryz.func30,Tryz.ntmps30;(go_wp2_with fail);(refine calls_name fun wa hwa=>?_;have wa_s0:=sg w.heap.size hwa;obtain ⟨wa_c0,wa_c1,wa_c2,wa_c3,wa_c4,wa_c5,wa_c6,wa_c7,wa_c8,wa_c9,wa_c10,wa_c11⟩:=kz12 hwa w.heap.size (.int .i64 3) (.int .i64 o.client) (.int .i64 o.seq) (.string o.key) (.string o.who) (.string o.tkey) (.string o.twho) (.int .i64 o.item) (.int .i64 o.count) (.int .i64 o.price) (.bool o.buy) (.int .i64 o.id);have wa_b:Below w.heap.size w wa:=(by rw [hwa];exact bg);clear hwa);(refine (rplace_any o.key o.who _ true Hp.out).mono ?_);(rintro e w1 ⟨rfl,w1_h⟩;obtain ⟨w1_hc,w1_hf⟩:=bcell w1_h;have w1_z:=w1_h.size;have w1_b:=wa_b.trans (w1_h.mono (by have:=wa_b.size;omega));have w1_le:=w1_b.size;have w1_s0:w.heap.size<w1.heap.size:=(by omega);clear w1_h);(go_wp2_with fail));(refine wp_name fun wb hwb=>?_;have wb_s0:=sg w.heap.size hwb;have wb_s1:=sg w1.heap.size hwb;obtain ⟨wb_c0,wb_c1,wb_c2,wb_c3,wb_c4,wb_c5,wb_c6,wb_c7,wb_c8,wb_c9,wb_c10,wb_c11⟩:=kz12 hwb w.heap.size (.int .i64 3) (.int .i64 o.client) (.int .i64 o.seq) (.string o.key) (.string o.who) (.string o.tkey) (.string o.twho) (.int .i64 o.item) (.int .i64 o.count) (.int .i64 o.price) (.bool o.buy) (.int .i64 o.id);obtain ⟨wb_c12,wb_c13,wb_c14,wb_c15,wb_c16,wb_c17,wb_c18,wb_c19,wb_c20,wb_c21,wb_c22,wb_c23⟩:=kz12 hwb w1.heap.size (.int .i64 3) (.int .i64 o.client) (.int .i64 o.seq) (.string o.key) (.string o.who) (.string ⟨#[]⟩) (.string ⟨#[]⟩) (.int .i64 0) (.int .i64 0) (.int .i64 0) (.bool false) (.int .i64 0);obtain ⟨wb_f17,wb_f18,wb_f19,wb_f20,wb_f21,wb_f22,wb_f23⟩:=ff7 hwb w1.heap.size 5 w1.heap.size 6 w1.heap.size 7 w1.heap.size 8 w1.heap.size 9 w1.heap.size 10 w1.heap.size 11;have wb_b:Below w.heap.size w wb:=(by rw [hwb];exact bg);clear hwb);(have hne:¬w.heap.size=w1.heap.size:=(by omega));go_region;(go_wp2_with fail))
    go_ret
    exact ⟨rfl,bg⟩
  ·have b1:decide (o.item≤3)=false:=by rw [decide_eq_false_iff_not];exact q1
   have hrf:r=false:=by rw [←hr];simp;omega
   clear hr
   subst hrf
   ((go_enter Tryz.func30,Tryz.ntmps30;(go_wp2_with fail);(refine calls_name fun wa hwa=>?_;have wa_s0:=sg w.heap.size hwa;obtain ⟨wa_c0,wa_c1,wa_c2,wa_c3,wa_c4,wa_c5,wa_c6,wa_c7,wa_c8,wa_c9,wa_c10,wa_c11⟩:=kz12 hwa w.heap.size (.int .i64 3) (.int .i64 o.client) (.int .i64 o.seq) (.string o.key) (.string o.who) (.string o.tkey) (.string o.twho) (.int .i64 o.item) (.int .i64 o.count) (.int .i64 o.price) (.bool o.buy) (.int .i64 o.id);have wa_b:Below w.heap.size w wa:=(by rw [hwa];exact bg);clear hwa);(refine (rplace_any o.key o.who _ true Hp.out).mono ?_);(rintro e w1 ⟨rfl,w1_h⟩;obtain ⟨w1_hc,w1_hf⟩:=bcell w1_h;have w1_z:=w1_h.size;have w1_b:=wa_b.trans (w1_h.mono (by have:=wa_b.size;omega));have w1_le:=w1_b.size;have w1_s0:w.heap.size<w1.heap.size:=(by omega);clear w1_h);(go_wp2_with fail));(refine wp_name fun wb hwb=>?_;have wb_s0:=sg w.heap.size hwb;have wb_s1:=sg w1.heap.size hwb;obtain ⟨wb_c0,wb_c1,wb_c2,wb_c3,wb_c4,wb_c5,wb_c6,wb_c7,wb_c8,wb_c9,wb_c10,wb_c11⟩:=kz12 hwb w.heap.size (.int .i64 3) (.int .i64 o.client) (.int .i64 o.seq) (.string o.key) (.string o.who) (.string o.tkey) (.string o.twho) (.int .i64 o.item) (.int .i64 o.count) (.int .i64 o.price) (.bool o.buy) (.int .i64 o.id);obtain ⟨wb_c12,wb_c13,wb_c14,wb_c15,wb_c16,wb_c17,wb_c18,wb_c19,wb_c20,wb_c21,wb_c22,wb_c23⟩:=kz12 hwb w1.heap.size (.int .i64 3) (.int .i64 o.client) (.int .i64 o.seq) (.string o.key) (.string o.who) (.string ⟨#[]⟩) (.string ⟨#[]⟩) (.int .i64 0) (.int .i64 0) (.int .i64 0) (.bool false) (.int .i64 0);obtain ⟨wb_f17,wb_f18,wb_f19,wb_f20,wb_f21,wb_f22,wb_f23⟩:=ff7 hwb w1.heap.size 5 w1.heap.size 6 w1.heap.size 7 w1.heap.size 8 w1.heap.size 9 w1.heap.size 10 w1.heap.size 11;have wb_b:Below w.heap.size w wb:=(by rw [hwb];exact bg);clear hwb);(have hne:¬w.heap.size=w1.heap.size:=(by omega));go_region;(go_wp2_with fail))
   go_ret
   exact ⟨rfl,bg⟩
 ·have b0:decide (1≤o.item)=false:=by rw [decide_eq_false_iff_not];exact q0
  have hrf:r=false:=by rw [←hr];simp;omega
  clear hr
  subst hrf
  ((go_enter Tryz.func30,Tryz.ntmps30;(go_wp2_with fail);(refine calls_name fun wa hwa=>?_;have wa_s0:=sg w.heap.size hwa;obtain ⟨wa_c0,wa_c1,wa_c2,wa_c3,wa_c4,wa_c5,wa_c6,wa_c7,wa_c8,wa_c9,wa_c10,wa_c11⟩:=kz12 hwa w.heap.size (.int .i64 3) (.int .i64 o.client) (.int .i64 o.seq) (.string o.key) (.string o.who) (.string o.tkey) (.string o.twho) (.int .i64 o.item) (.int .i64 o.count) (.int .i64 o.price) (.bool o.buy) (.int .i64 o.id);have wa_b:Below w.heap.size w wa:=(by rw [hwa];exact bg);clear hwa);(refine (rplace_any o.key o.who _ true Hp.out).mono ?_);(rintro e w1 ⟨rfl,w1_h⟩;obtain ⟨w1_hc,w1_hf⟩:=bcell w1_h;have w1_z:=w1_h.size;have w1_b:=wa_b.trans (w1_h.mono (by have:=wa_b.size;omega));have w1_le:=w1_b.size;have w1_s0:w.heap.size<w1.heap.size:=(by omega);clear w1_h);(go_wp2_with fail));(refine wp_name fun wb hwb=>?_;have wb_s0:=sg w.heap.size hwb;have wb_s1:=sg w1.heap.size hwb;obtain ⟨wb_c0,wb_c1,wb_c2,wb_c3,wb_c4,wb_c5,wb_c6,wb_c7,wb_c8,wb_c9,wb_c10,wb_c11⟩:=kz12 hwb w.heap.size (.int .i64 3) (.int .i64 o.client) (.int .i64 o.seq) (.string o.key) (.string o.who) (.string o.tkey) (.string o.twho) (.int .i64 o.item) (.int .i64 o.count) (.int .i64 o.price) (.bool o.buy) (.int .i64 o.id);obtain ⟨wb_c12,wb_c13,wb_c14,wb_c15,wb_c16,wb_c17,wb_c18,wb_c19,wb_c20,wb_c21,wb_c22,wb_c23⟩:=kz12 hwb w1.heap.size (.int .i64 3) (.int .i64 o.client) (.int .i64 o.seq) (.string o.key) (.string o.who) (.string ⟨#[]⟩) (.string ⟨#[]⟩) (.int .i64 0) (.int .i64 0) (.int .i64 0) (.bool false) (.int .i64 0);obtain ⟨wb_f17,wb_f18,wb_f19,wb_f20,wb_f21,wb_f22,wb_f23⟩:=ff7 hwb w1.heap.size 5 w1.heap.size 6 w1.heap.size 7 w1.heap.size 8 w1.heap.size 9 w1.heap.size 10 w1.heap.size 11;have wb_b:Below w.heap.size w wb:=(by rw [hwb];exact bg);clear hwb);(have hne:¬w.heap.size=w1.heap.size:=(by omega));go_region;(go_wp2_with fail))
  go_ret
  exact ⟨rfl,bg⟩
end Go.Proofs.YtogamdaomdoapaaGreat
namespace Go.Proofs.YtogamdaomdoapaaGreat
open Go.RowKit
set_option maxRecDepth 100000 in
set_option maxHeartbeats 8000000 in
theorem rmay_4 (o:Rq) (w:World) (r:Bool) (c1:1≤o.client) (c2:o.client≤1048576) (c3:1≤o.seq) (c4:o.seq≤1099511627776) (hp:placeB o.key o.who=true) (hr:mayO { o with kind:=4 }=r) :
 Calls Tryz.prog 30 #[.agg #[.int .i64 4,.int .i64 o.client,.int .i64 o.seq,.string o.key,.string o.who,.string o.tkey,.string o.twho,.int .i64 o.item,.int .i64 o.count,.int .i64 o.price,.bool o.buy,.int .i64 o.id]] w fun e w'=>e=.returned (.bool r)∧Below w.heap.size w w':=by
 have Hp:=Lib.hid hp
 have hkind:kindO { o with kind:=4 }=canO { o with kind:=4 }:=by simp [kindO]
 have hr2:kindO { o with kind:=4 }=r:=by rw [←hr];simp [mayO,hp,c1,c2,c3,c4]
 rw [hkind] at hr2
 clear hp hr hkind
 have hr:=hr2
 simp only [canO] at hr
 clear hr2
 have d2:decide (1048576<o.client)=false:=by rw [decide_eq_false_iff_not];omega
 have d1:decide (o.client<1)=false:=by rw [decide_eq_false_iff_not];omega
 have d3:decide (o.seq<1)=false:=by rw [decide_eq_false_iff_not];omega
 have d4:decide (1099511627776<o.seq)=false:=by rw [decide_eq_false_iff_not];omega
 by_cases q0:1≤o.id
 ·have b0:decide (1≤o.id)=true:=by rw [decide_eq_true_eq];exact q0
  by_cases q1:o.id≤1099511627776
  ·have b1:decide (o.id≤1099511627776)=true:=by rw [decide_eq_true_eq];exact q1
   have heq:=fun w=>eql_api.Op ⟨4,o.client,o.seq,o.key,o.who,⟨#[]⟩,⟨#[]⟩,0,0,0,false,o.id⟩ { o with kind:=4 } w r (by rw [eqR_comm,←hr];simp [eqR,q0,q1])
   simp only at heq
   clear hr
   (go_enter Tryz.func30,Tryz.ntmps30;(go_wp2_with fail);(refine calls_name fun wa hwa=>?_;have wa_s0:=sg w.heap.size hwa;obtain ⟨wa_c0,wa_c1,wa_c2,wa_c3,wa_c4,wa_c5,wa_c6,wa_c7,wa_c8,wa_c9,wa_c10,wa_c11⟩:=kz12 hwa w.heap.size (.int .i64 4) (.int .i64 o.client) (.int .i64 o.seq) (.string o.key) (.string o.who) (.string o.tkey) (.string o.twho) (.int .i64 o.item) (.int .i64 o.count) (.int .i64 o.price) (.bool o.buy) (.int .i64 o.id);have wa_b:Below w.heap.size w wa:=(by rw [hwa];exact bg);clear hwa);(refine (rplace_any o.key o.who _ true Hp.out).mono ?_);(rintro e w1 ⟨rfl,w1_h⟩;obtain ⟨w1_hc,w1_hf⟩:=bcell w1_h;have w1_z:=w1_h.size;have w1_b:=wa_b.trans (w1_h.mono (by have:=wa_b.size;omega));have w1_le:=w1_b.size;have w1_s0:w.heap.size<w1.heap.size:=(by omega);clear w1_h);(go_wp2_with fail))
   go_ret
   exact ⟨rfl,bg⟩
  ·have b1:decide (o.id≤1099511627776)=false:=by rw [decide_eq_false_iff_not];exact q1
   have hrf:r=false:=by rw [←hr];simp;omega
   clear hr
   subst hrf
   (go_enter Tryz.func30,Tryz.ntmps30;(go_wp2_with fail);(refine calls_name fun wa hwa=>?_;have wa_s0:=sg w.heap.size hwa;obtain ⟨wa_c0,wa_c1,wa_c2,wa_c3,wa_c4,wa_c5,wa_c6,wa_c7,wa_c8,wa_c9,wa_c10,wa_c11⟩:=kz12 hwa w.heap.size (.int .i64 4) (.int .i64 o.client) (.int .i64 o.seq) (.string o.key) (.string o.who) (.string o.tkey) (.string o.twho) (.int .i64 o.item) (.int .i64 o.count) (.int .i64 o.price) (.bool o.buy) (.int .i64 o.id);have wa_b:Below w.heap.size w wa:=(by rw [hwa];exact bg);clear hwa);(refine (rplace_any o.key o.who _ true Hp.out).mono ?_);(rintro e w1 ⟨rfl,w1_h⟩;obtain ⟨w1_hc,w1_hf⟩:=bcell w1_h;have w1_z:=w1_h.size;have w1_b:=wa_b.trans (w1_h.mono (by have:=wa_b.size;omega));have w1_le:=w1_b.size;have w1_s0:w.heap.size<w1.heap.size:=(by omega);clear w1_h);(go_wp2_with fail))
   go_ret
   exact ⟨rfl,bg⟩
 ·have b0:decide (1≤o.id)=false:=by rw [decide_eq_false_iff_not];exact q0
  have hrf:r=false:=by rw [←hr];simp;omega
  clear hr
  subst hrf
  (go_enter Tryz.func30,Tryz.ntmps30;(go_wp2_with fail);(refine calls_name fun wa hwa=>?_;have wa_s0:=sg w.heap.size hwa;obtain ⟨wa_c0,wa_c1,wa_c2,wa_c3,wa_c4,wa_c5,wa_c6,wa_c7,wa_c8,wa_c9,wa_c10,wa_c11⟩:=kz12 hwa w.heap.size (.int .i64 4) (.int .i64 o.client) (.int .i64 o.seq) (.string o.key) (.string o.who) (.string o.tkey) (.string o.twho) (.int .i64 o.item) (.int .i64 o.count) (.int .i64 o.price) (.bool o.buy) (.int .i64 o.id);have wa_b:Below w.heap.size w wa:=(by rw [hwa];exact bg);clear hwa);(refine (rplace_any o.key o.who _ true Hp.out).mono ?_);(rintro e w1 ⟨rfl,w1_h⟩;obtain ⟨w1_hc,w1_hf⟩:=bcell w1_h;have w1_z:=w1_h.size;have w1_b:=wa_b.trans (w1_h.mono (by have:=wa_b.size;omega));have w1_le:=w1_b.size;have w1_s0:w.heap.size<w1.heap.size:=(by omega);clear w1_h);(go_wp2_with fail))
  go_ret
  exact ⟨rfl,bg⟩
end Go.Proofs.YtogamdaomdoapaaGreat
namespace Go.Proofs.YtogamdaomdoapaaGreat
open Go.RowKit
set_option maxRecDepth 100000 in
set_option maxHeartbeats 8000000 in
theorem rmay_5 (o:Rq) (w:World) (r:Bool) (c1:1≤o.client) (c2:o.client≤1048576) (c3:1≤o.seq) (c4:o.seq≤1099511627776) (hp:placeB o.key o.who=true) (hr:mayO { o with kind:=5 }=r) :
 Calls Tryz.prog 30 #[.agg #[.int .i64 5,.int .i64 o.client,.int .i64 o.seq,.string o.key,.string o.who,.string o.tkey,.string o.twho,.int .i64 o.item,.int .i64 o.count,.int .i64 o.price,.bool o.buy,.int .i64 o.id]] w fun e w'=>e=.returned (.bool r)∧Below w.heap.size w w':=by
 have Hp:=Lib.hid hp
 have hkind:kindO { o with kind:=5 }=barO { o with kind:=5 }:=by simp [kindO]
 have hr2:kindO { o with kind:=5 }=r:=by rw [←hr];simp [mayO,hp,c1,c2,c3,c4]
 rw [hkind] at hr2
 clear hp hr hkind
 have hr:=hr2
 simp only [barO] at hr
 clear hr2
 have d2:decide (1048576<o.client)=false:=by rw [decide_eq_false_iff_not];omega
 have d1:decide (o.client<1)=false:=by rw [decide_eq_false_iff_not];omega
 have d3:decide (o.seq<1)=false:=by rw [decide_eq_false_iff_not];omega
 have d4:decide (1099511627776<o.seq)=false:=by rw [decide_eq_false_iff_not];omega
 have heq:=fun w=>eql_api.Op ⟨5,o.client,o.seq,o.key,o.who,⟨#[]⟩,⟨#[]⟩,0,0,0,false,0⟩ { o with kind:=5 } w r (by rw [eqR_comm,←hr];simp [eqR])
 simp only at heq
 clear hr
 (go_enter Tryz.func30,Tryz.ntmps30;(go_wp2_with fail);(refine calls_name fun wa hwa=>?_;have wa_s0:=sg w.heap.size hwa;obtain ⟨wa_c0,wa_c1,wa_c2,wa_c3,wa_c4,wa_c5,wa_c6,wa_c7,wa_c8,wa_c9,wa_c10,wa_c11⟩:=kz12 hwa w.heap.size (.int .i64 5) (.int .i64 o.client) (.int .i64 o.seq) (.string o.key) (.string o.who) (.string o.tkey) (.string o.twho) (.int .i64 o.item) (.int .i64 o.count) (.int .i64 o.price) (.bool o.buy) (.int .i64 o.id);have wa_b:Below w.heap.size w wa:=(by rw [hwa];exact bg);clear hwa);(refine (rplace_any o.key o.who _ true Hp.out).mono ?_);(rintro e w1 ⟨rfl,w1_h⟩;obtain ⟨w1_hc,w1_hf⟩:=bcell w1_h;have w1_z:=w1_h.size;have w1_b:=wa_b.trans (w1_h.mono (by have:=wa_b.size;omega));have w1_le:=w1_b.size;have w1_s0:w.heap.size<w1.heap.size:=(by omega);clear w1_h);(go_wp2_with fail))
 go_ret
 exact ⟨rfl,bg⟩
end Go.Proofs.YtogamdaomdoapaaGreat