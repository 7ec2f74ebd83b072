/- Texts put together: RMa6, RMa7, RMayA, REnc, RDec. -/
import Derived.Test.YtogamdaomdoapaaGreatSa05
import Derived.Test.YtogamdaomdoapaaGreatSa18
import Derived.Test.YtogamdaomdoapaaGreatSa34
import Derived.Test.YtogamdaomdoapaaGreatSa37
import Derived.Test.YtogamdaomdoapaaGreatSa38
import Derived.Test.YtogamdaomdoapaaGreatSa39
namespace Go.Proofs.YtogamdaomdoapaaGreat
open Go.RowKit
set_option maxRecDepth 100000 in
set_option maxHeartbeats 8000000 in
theorem rmay_6 (o:Rq) (w:World) (r:Bool) (c1:1≤o.client) (c2:o.client≤1048576) (c3:1≤o.seq) (c4:o.seq≤1099511627776) (hp:placeB o.key o.who=true) (hr:mayO { o with kind:=6 }=r) :
 Calls Tryz.prog 30 #[.agg #[.int .i64 6,.int .i64 o.client,.int .i64 o.seq,.string o.key,.string o.who,.string o.tkey,.string o.twho,.int .i64 o.item,.int .i64 o.count,.int .i64 o.price,.bool o.buy,.int .i64 o.id]] w fun e w'=>e=.returned (.bool r)∧Below w.heap.size w w':=by
 have Hp:=Lib.hid hp
 have hkind:kindO { o with kind:=6 }=cntO { o with kind:=6 }:=by simp [kindO]
 have hr2:kindO { o with kind:=6 }=r:=by rw [←hr];simp [mayO,hp,c1,c2,c3,c4]
 rw [hkind] at hr2
 clear hp hr hkind
 have hr:=hr2
 simp only [cntO] at hr
 clear hr2
 have d2:decide (1048576<o.client)=false:=by rw [decide_eq_false_iff_not];omega
 have d1:decide (o.client<1)=false:=by rw [decide_eq_false_iff_not];omega
 have d3:decide (o.seq<1)=false:=by rw [decide_eq_false_iff_not];omega
 have d4:decide (1099511627776<o.seq)=false:=by rw [decide_eq_false_iff_not];omega
 by_cases q0:0≤o.item
 ·have b0:decide (0≤o.item)=true:=by rw [decide_eq_true_eq];exact q0
  by_cases q1:o.item≤3
  ·have b1:decide (o.item≤3)=true:=by rw [decide_eq_true_eq];exact q1
   by_cases q2:1≤o.count
   ·have b2:decide (1≤o.count)=true:=by rw [decide_eq_true_eq];exact q2
    by_cases q3:o.count≤1048576
    ·have b3:decide (o.count≤1048576)=true:=by rw [decide_eq_true_eq];exact q3
     have p1:o.item<4:=by omega
     have heq:=fun w=>eql_api.Op ⟨6,o.client,o.seq,o.key,o.who,⟨#[]⟩,⟨#[]⟩,o.item,o.count,0,false,0⟩ { o with kind:=6 } w r (by rw [eqR_comm,←hr];simp [eqR,q0,p1,q2,q3])
     simp only at heq
     clear hr
     ((go_enter Tryz.func30,Tryz.ntmps30;(go_wp2_with fail);(refine calls_name fun wa hwa=>?_;have wa_s0:=sg w.heap.size hwa;obtain ⟨wa_c0,wa_c1,wa_c2,wa_c3,wa_c4,wa_c5,wa_c6,wa_c7,wa_c8,wa_c9,wa_c10,wa_c11⟩:=kz12 hwa w.heap.size (.int .i64 6) (.int .i64 o.client) (.int .i64 o.seq) (.string o.key) (.string o.who) (.string o.tkey) (.string o.twho) (.int .i64 o.item) (.int .i64 o.count) (.int .i64 o.price) (.bool o.buy) (.int .i64 o.id);have wa_b:Below w.heap.size w wa:=(by rw [hwa];exact bg);clear hwa);(refine (rplace_any o.key o.who _ true Hp.out).mono ?_);(rintro e w1 ⟨rfl,w1_h⟩;obtain ⟨w1_hc,w1_hf⟩:=bcell w1_h;have w1_z:=w1_h.size;have w1_b:=wa_b.trans (w1_h.mono (by have:=wa_b.size;omega));have w1_le:=w1_b.size;have w1_s0:w.heap.size<w1.heap.size:=(by omega);clear w1_h);(go_wp2_with fail));(refine wp_name fun wb hwb=>?_;have wb_s0:=sg w.heap.size hwb;have wb_s1:=sg w1.heap.size hwb;obtain ⟨wb_c0,wb_c1,wb_c2,wb_c3,wb_c4,wb_c5,wb_c6,wb_c7,wb_c8,wb_c9,wb_c10,wb_c11⟩:=kz12 hwb w.heap.size (.int .i64 6) (.int .i64 o.client) (.int .i64 o.seq) (.string o.key) (.string o.who) (.string o.tkey) (.string o.twho) (.int .i64 o.item) (.int .i64 o.count) (.int .i64 o.price) (.bool o.buy) (.int .i64 o.id);obtain ⟨wb_c12,wb_c13,wb_c14,wb_c15,wb_c16,wb_c17,wb_c18,wb_c19,wb_c20,wb_c21,wb_c22,wb_c23⟩:=kz12 hwb w1.heap.size (.int .i64 6) (.int .i64 o.client) (.int .i64 o.seq) (.string o.key) (.string o.who) (.string ⟨#[]⟩) (.string ⟨#[]⟩) (.int .i64 0) (.int .i64 0) (.int .i64 0) (.bool false) (.int .i64 0);obtain ⟨wb_f17,wb_f18,wb_f19,wb_f20,wb_f21,wb_f22,wb_f23⟩:=ff7 hwb w1.heap.size 5 w1.heap.size 6 w1.heap.size 7 w1.heap.size 8 w1.heap.size 9 w1.heap.size 10 w1.heap.size 11;have wb_b:Below w.heap.size w wb:=(by rw [hwb];exact bg);clear hwb);(have hne:¬w.heap.size=w1.heap.size:=(by omega));go_region;(go_wp2_with fail))
     go_ret
     exact ⟨rfl,bg⟩
    ·have b3:decide (o.count≤1048576)=false:=by rw [decide_eq_false_iff_not];exact q3
     have hrf:r=false:=by rw [←hr];simp;omega
     clear hr
     subst hrf
     ((go_enter Tryz.func30,Tryz.ntmps30;(go_wp2_with fail);(refine calls_name fun wa hwa=>?_;have wa_s0:=sg w.heap.size hwa;obtain ⟨wa_c0,wa_c1,wa_c2,wa_c3,wa_c4,wa_c5,wa_c6,wa_c7,wa_c8,wa_c9,wa_c10,wa_c11⟩:=kz12 hwa w.heap.size (.int .i64 6) (.int .i64 o.client) (.int .i64 o.seq) (.string o.key) (.string o.who) (.string o.tkey) (.string o.twho) (.int .i64 o.item) (.int .i64 o.count) (.int .i64 o.price) (.bool o.buy) (.int .i64 o.id);have wa_b:Below w.heap.size w wa:=(by rw [hwa];exact bg);clear hwa);(refine (rplace_any o.key o.who _ true Hp.out).mono ?_);(rintro e w1 ⟨rfl,w1_h⟩;obtain ⟨w1_hc,w1_hf⟩:=bcell w1_h;have w1_z:=w1_h.size;have w1_b:=wa_b.trans (w1_h.mono (by have:=wa_b.size;omega));have w1_le:=w1_b.size;have w1_s0:w.heap.size<w1.heap.size:=(by omega);clear w1_h);(go_wp2_with fail));(refine wp_name fun wb hwb=>?_;have wb_s0:=sg w.heap.size hwb;have wb_s1:=sg w1.heap.size hwb;obtain ⟨wb_c0,wb_c1,wb_c2,wb_c3,wb_c4,wb_c5,wb_c6,wb_c7,wb_c8,wb_c9,wb_c10,wb_c11⟩:=kz12 hwb w.heap.size (.int .i64 6) (.int .i64 o.client) (.int .i64 o.seq) (.string o.key) (.string o.who) (.string o.tkey) (.string o.twho) (.int .i64 o.item) (.int .i64 o.count) (.int .i64 o.price) (.bool o.buy) (.int .i64 o.id);obtain ⟨wb_c12,wb_c13,wb_c14,wb_c15,wb_c16,wb_c17,wb_c18,wb_c19,wb_c20,wb_c21,wb_c22,wb_c23⟩:=kz12 hwb w1.heap.size (.int .i64 6) (.int .i64 o.client) (.int .i64 o.seq) (.string o.key) (.string o.who) (.string ⟨#[]⟩) (.string ⟨#[]⟩) (.int .i64 0) (.int .i64 0) (.int .i64 0) (.bool false) (.int .i64 0);obtain ⟨wb_f17,wb_f18,wb_f19,wb_f20,wb_f21,wb_f22,wb_f23⟩:=ff7 hwb w1.heap.size 5 w1.heap.size 6 w1.heap.size 7 w1.heap.size 8 w1.heap.size 9 w1.heap.size 10 w1.heap.size 11;have wb_b:Below w.heap.size w wb:=(by rw [hwb];exact bg);clear hwb);(have hne:¬w.heap.size=w1.heap.size:=(by omega));go_region;(go_wp2_with fail))
     go_ret
     exact ⟨rfl,bg⟩
   ·have b2:decide (1≤o.count)=false:=by rw [decide_eq_false_iff_not];exact q2
    have hrf:r=false:=by rw [←hr];simp;omega
    clear hr
    subst hrf
    ((go_enter Tryz.func30,Tryz.ntmps30;(go_wp2_with fail);(refine calls_name fun wa hwa=>?_;have wa_s0:=sg w.heap.size hwa;obtain ⟨wa_c0,wa_c1,wa_c2,wa_c3,wa_c4,wa_c5,wa_c6,wa_c7,wa_c8,wa_c9,wa_c10,wa_c11⟩:=kz12 hwa w.heap.size (.int .i64 6) (.int .i64 o.client) (.int .i64 o.seq) (.string o.key) (.string o.who) (.string o.tkey) (.string o.twho) (.int .i64 o.item) (.int .i64 o.count) (.int .i64 o.price) (.bool o.buy) (.int .i64 o.id);have wa_b:Below w.heap.size w wa:=(by rw [hwa];exact bg);clear hwa);(refine (rplace_any o.key o.who _ true Hp.out).mono ?_);(rintro e w1 ⟨rfl,w1_h⟩;obtain ⟨w1_hc,w1_hf⟩:=bcell w1_h;have w1_z:=w1_h.size;have w1_b:=wa_b.trans (w1_h.mono (by have:=wa_b.size;omega));have w1_le:=w1_b.size;have w1_s0:w.heap.size<w1.heap.size:=(by omega);clear w1_h);(go_wp2_with fail));(refine wp_name fun wb hwb=>?_;have wb_s0:=sg w.heap.size hwb;have wb_s1:=sg w1.heap.size hwb;obtain ⟨wb_c0,wb_c1,wb_c2,wb_c3,wb_c4,wb_c5,wb_c6,wb_c7,wb_c8,wb_c9,wb_c10,wb_c11⟩:=kz12 hwb w.heap.size (.int .i64 6) (.int .i64 o.client) (.int .i64 o.seq) (.string o.key) (.string o.who) (.string o.tkey) (.string o.twho) (.int .i64 o.item) (.int .i64 o.count) (.int .i64 o.price) (.bool o.buy) (.int .i64 o.id);obtain ⟨wb_c12,wb_c13,wb_c14,wb_c15,wb_c16,wb_c17,wb_c18,wb_c19,wb_c20,wb_c21,wb_c22,wb_c23⟩:=kz12 hwb w1.heap.size (.int .i64 6) (.int .i64 o.client) (.int .i64 o.seq) (.string o.key) (.string o.who) (.string ⟨#[]⟩) (.string ⟨#[]⟩) (.int .i64 0) (.int .i64 0) (.int .i64 0) (.bool false) (.int .i64 0);obtain ⟨wb_f17,wb_f18,wb_f19,wb_f20,wb_f21,wb_f22,wb_f23⟩:=ff7 hwb w1.heap.size 5 w1.heap.size 6 w1.heap.size 7 w1.heap.size 8 w1.heap.size 9 w1.heap.size 10 w1.heap.size 11;have wb_b:Below w.heap.size w wb:=(by rw [hwb];exact bg);clear hwb);(have hne:¬w.heap.size=w1.heap.size:=(by omega));go_region;(go_wp2_with fail))
    go_ret
    exact ⟨rfl,bg⟩
  ·have b1:decide (o.item≤3)=false:=by rw [decide_eq_false_iff_not];exact q1
   have hrf:r=false:=by rw [←hr];simp;omega
   clear hr
   subst hrf
   ((go_enter Tryz.func30,Tryz.ntmps30;(go_wp2_with fail);(refine calls_name fun wa hwa=>?_;have wa_s0:=sg w.heap.size hwa;obtain ⟨wa_c0,wa_c1,wa_c2,wa_c3,wa_c4,wa_c5,wa_c6,wa_c7,wa_c8,wa_c9,wa_c10,wa_c11⟩:=kz12 hwa w.heap.size (.int .i64 6) (.int .i64 o.client) (.int .i64 o.seq) (.string o.key) (.string o.who) (.string o.tkey) (.string o.twho) (.int .i64 o.item) (.int .i64 o.count) (.int .i64 o.price) (.bool o.buy) (.int .i64 o.id);have wa_b:Below w.heap.size w wa:=(by rw [hwa];exact bg);clear hwa);(refine (rplace_any o.key o.who _ true Hp.out).mono ?_);(rintro e w1 ⟨rfl,w1_h⟩;obtain ⟨w1_hc,w1_hf⟩:=bcell w1_h;have w1_z:=w1_h.size;have w1_b:=wa_b.trans (w1_h.mono (by have:=wa_b.size;omega));have w1_le:=w1_b.size;have w1_s0:w.heap.size<w1.heap.size:=(by omega);clear w1_h);(go_wp2_with fail));(refine wp_name fun wb hwb=>?_;have wb_s0:=sg w.heap.size hwb;have wb_s1:=sg w1.heap.size hwb;obtain ⟨wb_c0,wb_c1,wb_c2,wb_c3,wb_c4,wb_c5,wb_c6,wb_c7,wb_c8,wb_c9,wb_c10,wb_c11⟩:=kz12 hwb w.heap.size (.int .i64 6) (.int .i64 o.client) (.int .i64 o.seq) (.string o.key) (.string o.who) (.string o.tkey) (.string o.twho) (.int .i64 o.item) (.int .i64 o.count) (.int .i64 o.price) (.bool o.buy) (.int .i64 o.id);obtain ⟨wb_c12,wb_c13,wb_c14,wb_c15,wb_c16,wb_c17,wb_c18,wb_c19,wb_c20,wb_c21,wb_c22,wb_c23⟩:=kz12 hwb w1.heap.size (.int .i64 6) (.int .i64 o.client) (.int .i64 o.seq) (.string o.key) (.string o.who) (.string ⟨#[]⟩) (.string ⟨#[]⟩) (.int .i64 0) (.int .i64 0) (.int .i64 0) (.bool false) (.int .i64 0);obtain ⟨wb_f17,wb_f18,wb_f19,wb_f20,wb_f21,wb_f22,wb_f23⟩:=ff7 hwb w1.heap.size 5 w1.heap.size 6 w1.heap.size 7 w1.heap.size 8 w1.heap.size 9 w1.heap.size 10 w1.heap.size 11;have wb_b:Below w.heap.size w wb:=(by rw [hwb];exact bg);clear hwb);(have hne:¬w.heap.size=w1.heap.size:=(by omega));go_region;(go_wp2_with fail))
   go_ret
   exact ⟨rfl,bg⟩
 ·have b0:decide (0≤o.item)=false:=by rw [decide_eq_false_iff_not];exact q0
  have hrf:r=false:=by rw [←hr];simp;omega
  clear hr
  subst hrf
  ((go_enter Tryz.func30,Tryz.ntmps30;(go_wp2_with fail);(refine calls_name fun wa hwa=>?_;have wa_s0:=sg w.heap.size hwa;obtain ⟨wa_c0,wa_c1,wa_c2,wa_c3,wa_c4,wa_c5,wa_c6,wa_c7,wa_c8,wa_c9,wa_c10,wa_c11⟩:=kz12 hwa w.heap.size (.int .i64 6) (.int .i64 o.client) (.int .i64 o.seq) (.string o.key) (.string o.who) (.string o.tkey) (.string o.twho) (.int .i64 o.item) (.int .i64 o.count) (.int .i64 o.price) (.bool o.buy) (.int .i64 o.id);have wa_b:Below w.heap.size w wa:=(by rw [hwa];exact bg);clear hwa);(refine (rplace_any o.key o.who _ true Hp.out).mono ?_);(rintro e w1 ⟨rfl,w1_h⟩;obtain ⟨w1_hc,w1_hf⟩:=bcell w1_h;have w1_z:=w1_h.size;have w1_b:=wa_b.trans (w1_h.mono (by have:=wa_b.size;omega));have w1_le:=w1_b.size;have w1_s0:w.heap.size<w1.heap.size:=(by omega);clear w1_h);(go_wp2_with fail));(refine wp_name fun wb hwb=>?_;have wb_s0:=sg w.heap.size hwb;have wb_s1:=sg w1.heap.size hwb;obtain ⟨wb_c0,wb_c1,wb_c2,wb_c3,wb_c4,wb_c5,wb_c6,wb_c7,wb_c8,wb_c9,wb_c10,wb_c11⟩:=kz12 hwb w.heap.size (.int .i64 6) (.int .i64 o.client) (.int .i64 o.seq) (.string o.key) (.string o.who) (.string o.tkey) (.string o.twho) (.int .i64 o.item) (.int .i64 o.count) (.int .i64 o.price) (.bool o.buy) (.int .i64 o.id);obtain ⟨wb_c12,wb_c13,wb_c14,wb_c15,wb_c16,wb_c17,wb_c18,wb_c19,wb_c20,wb_c21,wb_c22,wb_c23⟩:=kz12 hwb w1.heap.size (.int .i64 6) (.int .i64 o.client) (.int .i64 o.seq) (.string o.key) (.string o.who) (.string ⟨#[]⟩) (.string ⟨#[]⟩) (.int .i64 0) (.int .i64 0) (.int .i64 0) (.bool false) (.int .i64 0);obtain ⟨wb_f17,wb_f18,wb_f19,wb_f20,wb_f21,wb_f22,wb_f23⟩:=ff7 hwb w1.heap.size 5 w1.heap.size 6 w1.heap.size 7 w1.heap.size 8 w1.heap.size 9 w1.heap.size 10 w1.heap.size 11;have wb_b:Below w.heap.size w wb:=(by rw [hwb];exact bg);clear hwb);(have hne:¬w.heap.size=w1.heap.size:=(by omega));go_region;(go_wp2_with fail))
  go_ret
  exact ⟨rfl,bg⟩
end Go.Proofs.YtogamdaomdoapaaGreat
namespace Go.Proofs.YtogamdaomdoapaaGreat
open Go.RowKit
set_option maxRecDepth 100000 in
set_option maxHeartbeats 8000000 in
theorem rmay_7 (o:Rq) (w:World) (r:Bool) (c1:1≤o.client) (c2:o.client≤1048576) (c3:1≤o.seq) (c4:o.seq≤1099511627776) (hp:placeB o.key o.who=true) (hr:mayO { o with kind:=7 }=r) :
 Calls Tryz.prog 30 #[.agg #[.int .i64 7,.int .i64 o.client,.int .i64 o.seq,.string o.key,.string o.who,.string o.tkey,.string o.twho,.int .i64 o.item,.int .i64 o.count,.int .i64 o.price,.bool o.buy,.int .i64 o.id]] w fun e w'=>e=.returned (.bool r)∧Below w.heap.size w w':=by
 have Hp:=Lib.hid hp
 have hkind:kindO { o with kind:=7 }=barO { o with kind:=7 }:=by simp [kindO]
 have hr2:kindO { o with kind:=7 }=r:=by rw [←hr];simp [mayO,hp,c1,c2,c3,c4]
 rw [hkind] at hr2
 clear hp hr hkind
 have hr:=hr2
 simp only [barO] at hr
 clear hr2
 have d2:decide (1048576<o.client)=false:=by rw [decide_eq_false_iff_not];omega
 have d1:decide (o.client<1)=false:=by rw [decide_eq_false_iff_not];omega
 have d3:decide (o.seq<1)=false:=by rw [decide_eq_false_iff_not];omega
 have d4:decide (1099511627776<o.seq)=false:=by rw [decide_eq_false_iff_not];omega
 have heq:=fun w=>eql_api.Op ⟨7,o.client,o.seq,o.key,o.who,⟨#[]⟩,⟨#[]⟩,0,0,0,false,0⟩ { o with kind:=7 } w r (by rw [eqR_comm,←hr];simp [eqR])
 simp only at heq
 clear hr
 (go_enter Tryz.func30,Tryz.ntmps30;(go_wp2_with fail);(refine calls_name fun wa hwa=>?_;have wa_s0:=sg w.heap.size hwa;obtain ⟨wa_c0,wa_c1,wa_c2,wa_c3,wa_c4,wa_c5,wa_c6,wa_c7,wa_c8,wa_c9,wa_c10,wa_c11⟩:=kz12 hwa w.heap.size (.int .i64 7) (.int .i64 o.client) (.int .i64 o.seq) (.string o.key) (.string o.who) (.string o.tkey) (.string o.twho) (.int .i64 o.item) (.int .i64 o.count) (.int .i64 o.price) (.bool o.buy) (.int .i64 o.id);have wa_b:Below w.heap.size w wa:=(by rw [hwa];exact bg);clear hwa);(refine (rplace_any o.key o.who _ true Hp.out).mono ?_);(rintro e w1 ⟨rfl,w1_h⟩;obtain ⟨w1_hc,w1_hf⟩:=bcell w1_h;have w1_z:=w1_h.size;have w1_b:=wa_b.trans (w1_h.mono (by have:=wa_b.size;omega));have w1_le:=w1_b.size;have w1_s0:w.heap.size<w1.heap.size:=(by omega);clear w1_h);(go_wp2_with fail))
 go_ret
 exact ⟨rfl,bg⟩
end Go.Proofs.YtogamdaomdoapaaGreat
namespace Go.Proofs.YtogamdaomdoapaaGreat
open Go.RowKit
theorem rmay_any (o:Rq) (w:World) (r:Bool) (hr:mayO o=r) :
 Calls Tryz.prog 30 #[.agg #[.int .i64 o.kind,.int .i64 o.client,.int .i64 o.seq,.string o.key,.string o.who,.string o.tkey,.string o.twho,.int .i64 o.item,.int .i64 o.count,.int .i64 o.price,.bool o.buy,.int .i64 o.id]] w fun e w'=>e=.returned (.bool r)∧Below w.heap.size w w':=by
 cases hq:(decide (1≤o.client∧o.client≤1048576∧1≤o.seq∧o.seq≤1099511627776)&&placeB o.key o.who) with
 | false =>
  have:r=false:=by rw [←hr];unfold mayO;rw [hq,Bool.false_and]
  subst this
  exact rmay_no o w hq
 | true =>
  have hq2:=hq
  simp only [Bool.and_eq_true,decide_eq_true_eq] at hq2
  obtain ⟨⟨c1,c2,c3,c4⟩,hp⟩:=hq2
  by_cases hk:o.kind<1∨7<o.kind
  ·have:r=false:=by
    rw [←hr];unfold mayO
    have:kindO o=false:=by
     unfold kindO
     rw [if_neg (by omega),if_neg (by omega),if_neg (by omega),if_neg (by omega),if_neg (by omega)]
    rw [this,Bool.and_false]
   subst this
   exact rmay_out o w c1 c2 c3 c4 hp hk
  ·obtain ⟨kind,client,seq,key,who,tkey,twho,item,count,price,buy,id⟩:=o
   simp only at *
   have h2:kind=1∨kind=2∨kind=3∨kind=4∨kind=5∨kind=6∨kind=7:=by omega
   rcases h2 with rfl | rfl | rfl | rfl | rfl | rfl | rfl
   ·exact rmay_1 ⟨1,client,seq,key,who,tkey,twho,item,count,price,buy,id⟩ w r c1 c2 c3 c4 hp hr
   ·exact rmay_2 ⟨2,client,seq,key,who,tkey,twho,item,count,price,buy,id⟩ w r c1 c2 c3 c4 hp hr
   ·exact rmay_3 ⟨3,client,seq,key,who,tkey,twho,item,count,price,buy,id⟩ w r c1 c2 c3 c4 hp hr
   ·exact rmay_4 ⟨4,client,seq,key,who,tkey,twho,item,count,price,buy,id⟩ w r c1 c2 c3 c4 hp hr
   ·exact rmay_5 ⟨5,client,seq,key,who,tkey,twho,item,count,price,buy,id⟩ w r c1 c2 c3 c4 hp hr
   ·exact rmay_6 ⟨6,client,seq,key,who,tkey,twho,item,count,price,buy,id⟩ w r c1 c2 c3 c4 hp hr
   ·exact rmay_7 ⟨7,client,seq,key,who,tkey,twho,item,count,price,buy,id⟩ w r c1 c2 c3 c4 hp hr
end Go.Proofs.YtogamdaomdoapaaGreat
namespace Go.Proofs.YtogamdaomdoapaaGreat
open Go.RowKit
attribute [local go_sem ↓] Go.wp_at_zero Go.wp_at_succ
theorem put_eq (k v:ByteArray) (hk:k.size≤16) (hv:v.size≤16) (w:World) (X:List UInt8) (hX:encS k++encS v=X) :
 Calls Tryz.prog 128 #[.agg #[.string k,.string v]] w (FreshB w X):=hX▸put_any k v hk hv w
set_option maxRecDepth 20000 in
set_option maxHeartbeats 2000000 in
theorem renc_yes (o:Rq) (w:World) (hm:mayO o=true) :
 Calls Tryz.prog 93 #[.agg #[.int .i64 o.kind,.int .i64 o.client,.int .i64 o.seq,.string o.key,.string o.who,.string o.tkey,.string o.twho,.int .i64 o.item,.int .i64 o.count,.int .i64 o.price,.bool o.buy,.int .i64 o.id]] w fun e w'=>∃ ao cap,e=.returned (.tuple #[.slice ao (encO o).length cap,.int .i64 0])∧OwnB w' w.heap.size ao cap (encO o)∧Below w.heap.size w w':=by
 obtain ⟨i0,hi,hz0,hz1,hz2⟩:=info_parts byteInfo
 have Hz:=Lib.hid (may_sizes hm)
 have Hm:=Lib.hid hm
 clear hm
 go_enter Tryz.func93,Tryz.ntmps93
 go_wp2_with fail
 (refine calls_name fun wa hwa=>?_;have wa_s0:=sg w.heap.size hwa;obtain ⟨wa_c0,wa_c1,wa_c2,wa_c3,wa_c4,wa_c5,wa_c6,wa_c7,wa_c8,wa_c9,wa_c10,wa_c11⟩:=kz12 hwa w.heap.size (.int .i64 o.kind) (.int .i64 o.client) (.int .i64 o.seq) (.string o.key) (.string o.who) (.string o.tkey) (.string o.twho) (.int .i64 o.item) (.int .i64 o.count) (.int .i64 o.price) (.bool o.buy) (.int .i64 o.id);have wa_b:Below w.heap.size w wa:=(by rw [hwa];exact bg);clear hwa)
 refine (rmay_any o _ true Hm.out).mono ?_
 (rintro e w1 ⟨rfl,w1_h⟩;obtain ⟨w1_hc,w1_hf⟩:=bcell w1_h;have w1_z:=w1_h.size;have w1_b:=wa_b.trans (w1_h.mono (by have:=wa_b.size;omega));have w1_le:=w1_b.size;have w1_s0:w.heap.size<w1.heap.size:=(by omega);clear w1_h)
 go_wp2_with fail
 obtain ⟨A,hA⟩:∃ A,encs [o.kind,o.client,o.seq]=A:=⟨_,rfl⟩
 obtain ⟨B,hB⟩:∃ B,encS o.key++encS o.who=B:=⟨_,rfl⟩
 obtain ⟨C,hC⟩:∃ C,encS o.tkey++encS o.twho=C:=⟨_,rfl⟩
 obtain ⟨D,hD⟩:∃ D,encs [o.item,o.count,o.price,b1 o.buy,o.id]=D:=⟨_,rfl⟩
 have HL0:Hid (A.length≤30∧B.length≤52∧C.length≤52∧D.length≤50):=by
  have h1:=encs_length [o.kind,o.client,o.seq]
  have h2:=rowlen o.key Hz.out.1;have h3:=rowlen o.who Hz.out.2.1;have h4:=rowlen o.tkey Hz.out.2.2.1;have h5:=rowlen o.twho Hz.out.2.2.2
  have h6:=encs_length [o.item,o.count,o.price,b1 o.buy,o.id]
  subst hA hB hC hD
  refine ⟨by simpa using h1,?_,?_,by simpa using h6⟩<;>rw [List.length_append]<;>omega
 obtain ⟨E1,hE1⟩:∃ E1,A++B=E1:=⟨_,rfl⟩
 obtain ⟨E2,hE2⟩:∃ E2,E1++C=E2:=⟨_,rfl⟩
 obtain ⟨E3,hE3⟩:∃ E3,E2++D=E3:=⟨_,rfl⟩
 have HL:Hid (A.length≤30∧B.length≤52∧C.length≤52∧D.length≤50∧E1.length≤82∧E2.length≤134):=by
  have h:=HL0.out
  subst hE1 hE2
  simp only [Hid,List.length_append];omega
 have HE:Hid (encO o=E3):=by subst hA hB hC hD hE1 hE2 hE3;simp only [Hid,encO,List.append_assoc]
 have HA:=Lib.hid hA
 have HB:=Lib.hid hB
 have HC:=Lib.hid hC
 have HD:=Lib.hid hD
 have H1:=Lib.hid hE1
 have H2:=Lib.hid hE2
 have H3:=Lib.hid hE3
 clear hA hB hC hD hE1 hE2 hE3
 refine (refNums_eq [o.kind,o.client,o.seq] w1 w1.heap.size 3 _ rfl rfl rfl (by simp) A HA.out).mono ?_
 rintro e w2 ⟨ao,cap,rfl,ho,hb⟩
 have w2_b:Below w1.heap.size w1 w2:=hb
 obtain ⟨hc2,hf2⟩:=bcell hb
 have w2_s:=hb.size
 have Ho:=Lib.hid ho
 clear ho hb
 go_wp2_with fail
 refine (put_eq o.key o.who Hz.out.1 Hz.out.2.1 w2 B HB.out).mono ?_
 rintro e w3 ⟨bo,bc,rfl,hp,hb⟩
 have w3_b:Below w1.heap.size w1 w3:=w2_b.trans (hb.mono (by omega))
 have w3_s:=hb.size
 have Ho3:=Lib.hid (own_growO Ho.out hb)
 have Hnew:=Lib.hid hp
 clear hp hb Ho hc2 hf2
 go_wp2_with (at_builtin;go_must (refine wpList_append_any _ rfl (.tmp 16) (.tmp 19) 47 rfl w1.heap.size 5 i0 (.int .u8 0) 1 1 Tryz.underlying47 hi hz0 hz1 hz2 rfl (by decide) (.slice ao (A).length cap) (A).length (bytV (A)) rfl Ho3.out bo (B).length bc (bytV (B)) rfl Hnew.out.none (by rw [bytV_length,Nat.mul_one]) Hnew.out.at.cells (bytV_one _) (by have:=HL.out;unfold maxLen;omega) (by have:=HL.out;omega) (by omega) ?_))
 intro vv w4 hown hgrow;have w4_b:Below w1.heap.size w1 w4:=below_grown w3_b (by omega) hgrow (fun j hj=>own_block Ho3.out hj);have w4_s:=w4_b.size;obtain ⟨co,cc,rfl,ho⟩:=owned_bytes (l:=E1) (by rw [←H1.out,←bytV_append];exact hown) (by rw [←H1.out,List.length_append]); clear hown hgrow
 obtain ⟨hc4,hf4⟩:=bcellB w4_b
 have Ho4:=Lib.hid ho
 clear ho Hnew Ho3
 go_wp2_with fail
 refine (put_eq o.tkey o.twho Hz.out.2.2.1 Hz.out.2.2.2 w4 C HC.out).mono ?_
 rintro e w5 ⟨bo,bc,rfl,hp,hb⟩
 have w5_b:Below w1.heap.size w1 w5:=w4_b.trans (hb.mono (by omega))
 have w5_s:=hb.size
 have Ho5:=Lib.hid (own_growO Ho4.out hb)
 have Hnew:=Lib.hid hp
 clear hp hb Ho4 hc4 hf4
 go_wp2_with (at_builtin;go_must (refine wpList_append_any _ rfl (.tmp 21) (.tmp 24) 47 rfl w1.heap.size 5 i0 (.int .u8 0) 1 1 Tryz.underlying47 hi hz0 hz1 hz2 rfl (by decide) (.slice co (E1).length cc) (E1).length (bytV (E1)) rfl Ho5.out bo (C).length bc (bytV (C)) rfl Hnew.out.none (by rw [bytV_length,Nat.mul_one]) Hnew.out.at.cells (bytV_one _) (by have:=HL.out;unfold maxLen;omega) (by have:=HL.out;omega) (by omega) ?_))
 intro vv w6 hown hgrow;have w6_b:Below w1.heap.size w1 w6:=below_grown w5_b (by omega) hgrow (fun j hj=>own_block Ho5.out hj);have w6_s:=w6_b.size;obtain ⟨do6,dc,rfl,ho⟩:=owned_bytes (l:=E2) (by rw [←H2.out,←bytV_append];exact hown) (by rw [←H2.out,List.length_append]); clear hown hgrow
 obtain ⟨hc6,hf6⟩:=bcellB w6_b
 have Ho6:=Lib.hid ho
 clear ho Hnew Ho5
 go_wp2_with fail
 have e5:=(hc6 w.heap.size 7 (by omega)).trans ((w1_hc w.heap.size 7 (by omega)).trans wa_c7)
 have e6:=(hc6 w.heap.size 8 (by omega)).trans ((w1_hc w.heap.size 8 (by omega)).trans wa_c8)
 have e7:=(hc6 w.heap.size 9 (by omega)).trans ((w1_hc w.heap.size 9 (by omega)).trans wa_c9)
 have e8:=(hc6 w.heap.size 10 (by omega)).trans ((w1_hc w.heap.size 10 (by omega)).trans wa_c10)
 have e9:=(hc6 w.heap.size 11 (by omega)).trans ((w1_hc w.heap.size 11 (by omega)).trans wa_c11)
 have hlt6:w.heap.size<w6.heap.size:=by omega
 clear hc6 hf6 w1_hc w1_hf wa_c0 wa_c1 wa_c2 wa_c3 wa_c4 wa_c5 wa_c6 wa_c7 wa_c8 wa_c9 wa_c10 wa_c11 w5_b w4_b w3_b w2_b
 go_region_held3 (fun W=>∀ o,W.cell? ⟨w.heap.size,o,none⟩=w6.cell? ⟨w.heap.size,o,none⟩) (first | assumption | exact fun _=>rfl | exact fun o=>(w9_b.cell (p:=⟨w.heap.size,o,none⟩) w1_s0).trans (w6_b.cell (p:=⟨w.heap.size,o,none⟩) w1_s0).symm | exact fun o=>hbw8.cell (p:=⟨w.heap.size,o,none⟩) hlt6 | exact fun o=>((below_allocO w6 _).drew).cell (p:=⟨w.heap.size,o,none⟩) hlt6) (first
  | (go_at_call 129;refine (one_any o.buy _).mono ?_;rintro e W' ⟨rfl,rfl⟩)
  | (go_at_call 54;go_must (refine (refNums_in [o.item,o.count,o.price,b1 o.buy,o.id] _ w6.heap.size 5 #[.int .i64 o.item,.int .i64 o.count,.int .i64 o.price,.int .i64 (b1 o.buy),.int .i64 o.id] ?_ rfl rfl (by simp) D HD.out).mono ?_;(focus (exact heap_new w6 _));rintro e w8 ⟨co8,cc8,rfl,ho8,hb8⟩;have hbw8:Below w6.heap.size w6 w8:=((below_allocO w6 _).drew).trans (hb8.mono (by first | (simp;done) | (simp;omega)))))
  | (refine at_app _ _ (by rfl) ?_;go_must (refine step_append_any _ (by rfl) (.tmp 26) (.tmp 39) 47 (by rfl) w1.heap.size 5 i0 (.int .u8 0) 1 1 Tryz.underlying47 hi hz0 hz1 hz2 rfl (by decide) (.slice do6 E2.length dc) E2.length (bytV E2) (by rfl) (own_growO Ho6.out hbw8) co8 D.length cc8 (bytV D) (by rfl) ho8.none (by rw [bytV_length,Nat.mul_one]) ho8.at.cells (bytV_one _) (by have:=HL.out;unfold maxLen;omega) (by have:=HL.out;omega) (by have:=hbw8.size;omega) ?_;intro vv w9 hown hgrow;have w9_b:Below w1.heap.size w1 w9:=below_grown (w6_b.trans (hbw8.mono (by omega))) (by have:=hbw8.size;omega) hgrow (fun j hj=>own_block Ho6.out hj);obtain ⟨do9,dc9,rfl,ho9⟩:=owned_bytes (l:=E3) (by rw [←H3.out,←bytV_append];exact hown) (by rw [←H3.out,List.length_append]);clear hown hgrow))
  | fail)
 all_goals
  go_wp2_with fail
  go_ret2
  refine ⟨do9,dc9,?_,?_,w1_b.trans (w9_b.mono (by omega))⟩
  ·rw [HE.out,←H3.out,List.length_append];rfl
  ·rw [HE.out];exact own_weak ho9 (by omega)
end Go.Proofs.YtogamdaomdoapaaGreat
namespace Go.Proofs.YtogamdaomdoapaaGreat
open Go.RowKit
structure DIn (l:List UInt8) (d:Dq) (r3:List UInt8) (b3:Bool) (r7:List UInt8) (b7:Bool) (r1:List UInt8) (b1:Bool) (r2:List UInt8) (b2:Bool) (s1:List UInt8) (c1:Bool) (s2:List UInt8) (c2:Bool) (s3:List UInt8) (c3:Bool) (s4:List UInt8) (c4:Bool):Prop where
 na:numT l false=(d.k,r1,b1)
 nb:numT r1 b1=(d.c,r2,b2)
 nc:numT r2 b2=(d.s,r3,b3)
 ma:numT r7 b7=(d.i,s1,c1)
 mb:numT s1 c1=(d.n,s2,c2)
 mc:numT s2 c2=(d.p,s3,c3)
 md:numT s3 c3=(d.b,s4,c4)
 me:numT s4 c4=(d.d,d.rest,d.bad)
 la:r1.length≤l.length
 lb:r2.length≤l.length
 va:s1.length≤r7.length
 vb:s2.length≤r7.length
 vc:s3.length≤r7.length
 vd:s4.length≤r7.length
end Go.Proofs.YtogamdaomdoapaaGreat