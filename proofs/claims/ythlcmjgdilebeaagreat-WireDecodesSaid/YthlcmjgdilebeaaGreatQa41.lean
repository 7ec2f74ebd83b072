/- Texts put together: RMa6, RMa7, RMayA, RDec. -/
import Derived.Test.YthlcmjgdilebeaaGreatQa05
import Derived.Test.YthlcmjgdilebeaaGreatQa18
import Derived.Test.YthlcmjgdilebeaaGreatQa34
import Derived.Test.YthlcmjgdilebeaaGreatQa38
import Derived.Test.YthlcmjgdilebeaaGreatQa39
import Derived.Test.YthlcmjgdilebeaaGreatQa40
namespace Go.Proofs.YthlcmjgdilebeaaGreat
open Go.RowKit
set_option maxRecDepth 100000 in
set_option maxHeartbeats 8000000 in
theorem rmay_6 (o:Rq) (w:World) (r:Bool) (c1:1≤o.client) (c2:o.client≤1048576) (c3:1≤o.seq) (c4:o.seq≤1099511627776) (hp:placeB o.key o.who=true) (hr:mayO { o with kind:=6 }=r) :
 Calls Tryz.prog 61 #[.agg #[.int .i64 6,.int .i64 o.client,.int .i64 o.seq,.string o.key,.string o.who,.string o.tkey,.string o.twho,.int .i64 o.item,.int .i64 o.count,.int .i64 o.price,.bool o.buy,.int .i64 o.id]] w fun e w'=>e=.returned (.bool r)∧Below w.heap.size w w':=by
 have Hp:=Lib.hid hp
 have hkind:kindO { o with kind:=6 }=cntO { o with kind:=6 }:=by simp [kindO]
 have hr2:kindO { o with kind:=6 }=r:=by rw [←hr];simp [mayO,hp,c1,c2,c3,c4]
 rw [hkind] at hr2
 clear hp hr hkind
 have hr:=hr2
 simp only [cntO] at hr
 clear hr2
 have d2:decide (1048576<o.client)=false:=by rw [decide_eq_false_iff_not];omega
 have d1:decide (o.client<1)=false:=by rw [decide_eq_false_iff_not];omega
 have d3:decide (o.seq<1)=false:=by rw [decide_eq_false_iff_not];omega
 have d4:decide (1099511627776<o.seq)=false:=by rw [decide_eq_false_iff_not];omega
 by_cases q0:0≤o.item
 ·have b0:decide (0≤o.item)=true:=by rw [decide_eq_true_eq];exact q0
  by_cases q1:o.item≤3
  ·have b1:decide (o.item≤3)=true:=by rw [decide_eq_true_eq];exact q1
   by_cases q2:1≤o.count
   ·have b2:decide (1≤o.count)=true:=by rw [decide_eq_true_eq];exact q2
    by_cases q3:o.count≤1048576
    ·have b3:decide (o.count≤1048576)=true:=by rw [decide_eq_true_eq];exact q3
     have p1:o.item<4:=by omega
     have heq:=fun w=>eql_api.Op ⟨6,o.client,o.seq,o.key,o.who,⟨#[]⟩,⟨#[]⟩,o.item,o.count,0,false,0⟩ { o with kind:=6 } w r (by rw [eqR_comm,←hr];simp [eqR,q0,p1,q2,q3])
     simp only at heq
     clear hr
     ((go_enter Tryz.func61,Tryz.ntmps61;(go_wp2_with fail);(refine calls_name fun wa hwa=>?_;have wa_s0:=sg w.heap.size hwa;obtain ⟨wa_c0,wa_c1,wa_c2,wa_c3,wa_c4,wa_c5,wa_c6,wa_c7,wa_c8,wa_c9,wa_c10,wa_c11⟩:=kz12 hwa w.heap.size (.int .i64 6) (.int .i64 o.client) (.int .i64 o.seq) (.string o.key) (.string o.who) (.string o.tkey) (.string o.twho) (.int .i64 o.item) (.int .i64 o.count) (.int .i64 o.price) (.bool o.buy) (.int .i64 o.id);have wa_b:Below w.heap.size w wa:=(by rw [hwa];exact bg);clear hwa);(refine (rplace_any o.key o.who _ true Hp.out).mono ?_);(rintro e w1 ⟨rfl,w1_h⟩;obtain ⟨w1_hc,w1_hf⟩:=bcell w1_h;have w1_z:=w1_h.size;have w1_b:=wa_b.trans (w1_h.mono (by have:=wa_b.size;omega));have w1_le:=w1_b.size;have w1_s0:w.heap.size<w1.heap.size:=(by omega);clear w1_h);(go_wp2_with fail));(refine wp_name fun wb hwb=>?_;have wb_s0:=sg w.heap.size hwb;have wb_s1:=sg w1.heap.size hwb;obtain ⟨wb_c0,wb_c1,wb_c2,wb_c3,wb_c4,wb_c5,wb_c6,wb_c7,wb_c8,wb_c9,wb_c10,wb_c11⟩:=kz12 hwb w.heap.size (.int .i64 6) (.int .i64 o.client) (.int .i64 o.seq) (.string o.key) (.string o.who) (.string o.tkey) (.string o.twho) (.int .i64 o.item) (.int .i64 o.count) (.int .i64 o.price) (.bool o.buy) (.int .i64 o.id);obtain ⟨wb_c12,wb_c13,wb_c14,wb_c15,wb_c16,wb_c17,wb_c18,wb_c19,wb_c20,wb_c21,wb_c22,wb_c23⟩:=kz12 hwb w1.heap.size (.int .i64 6) (.int .i64 o.client) (.int .i64 o.seq) (.string o.key) (.string o.who) (.string ⟨#[]⟩) (.string ⟨#[]⟩) (.int .i64 0) (.int .i64 0) (.int .i64 0) (.bool false) (.int .i64 0);obtain ⟨wb_f17,wb_f18,wb_f19,wb_f20,wb_f21,wb_f22,wb_f23⟩:=ff7 hwb w1.heap.size 5 w1.heap.size 6 w1.heap.size 7 w1.heap.size 8 w1.heap.size 9 w1.heap.size 10 w1.heap.size 11;have wb_b:Below w.heap.size w wb:=(by rw [hwb];exact bg);clear hwb);(have hne:¬w.heap.size=w1.heap.size:=(by omega));go_region;(go_wp2_with fail))
     go_ret
     exact ⟨rfl,bg⟩
    ·have b3:decide (o.count≤1048576)=false:=by rw [decide_eq_false_iff_not];exact q3
     have hrf:r=false:=by rw [←hr];simp;omega
     clear hr
     subst hrf
     ((go_enter Tryz.func61,Tryz.ntmps61;(go_wp2_with fail);(refine calls_name fun wa hwa=>?_;have wa_s0:=sg w.heap.size hwa;obtain ⟨wa_c0,wa_c1,wa_c2,wa_c3,wa_c4,wa_c5,wa_c6,wa_c7,wa_c8,wa_c9,wa_c10,wa_c11⟩:=kz12 hwa w.heap.size (.int .i64 6) (.int .i64 o.client) (.int .i64 o.seq) (.string o.key) (.string o.who) (.string o.tkey) (.string o.twho) (.int .i64 o.item) (.int .i64 o.count) (.int .i64 o.price) (.bool o.buy) (.int .i64 o.id);have wa_b:Below w.heap.size w wa:=(by rw [hwa];exact bg);clear hwa);(refine (rplace_any o.key o.who _ true Hp.out).mono ?_);(rintro e w1 ⟨rfl,w1_h⟩;obtain ⟨w1_hc,w1_hf⟩:=bcell w1_h;have w1_z:=w1_h.size;have w1_b:=wa_b.trans (w1_h.mono (by have:=wa_b.size;omega));have w1_le:=w1_b.size;have w1_s0:w.heap.size<w1.heap.size:=(by omega);clear w1_h);(go_wp2_with fail));(refine wp_name fun wb hwb=>?_;have wb_s0:=sg w.heap.size hwb;have wb_s1:=sg w1.heap.size hwb;obtain ⟨wb_c0,wb_c1,wb_c2,wb_c3,wb_c4,wb_c5,wb_c6,wb_c7,wb_c8,wb_c9,wb_c10,wb_c11⟩:=kz12 hwb w.heap.size (.int .i64 6) (.int .i64 o.client) (.int .i64 o.seq) (.string o.key) (.string o.who) (.string o.tkey) (.string o.twho) (.int .i64 o.item) (.int .i64 o.count) (.int .i64 o.price) (.bool o.buy) (.int .i64 o.id);obtain ⟨wb_c12,wb_c13,wb_c14,wb_c15,wb_c16,wb_c17,wb_c18,wb_c19,wb_c20,wb_c21,wb_c22,wb_c23⟩:=kz12 hwb w1.heap.size (.int .i64 6) (.int .i64 o.client) (.int .i64 o.seq) (.string o.key) (.string o.who) (.string ⟨#[]⟩) (.string ⟨#[]⟩) (.int .i64 0) (.int .i64 0) (.int .i64 0) (.bool false) (.int .i64 0);obtain ⟨wb_f17,wb_f18,wb_f19,wb_f20,wb_f21,wb_f22,wb_f23⟩:=ff7 hwb w1.heap.size 5 w1.heap.size 6 w1.heap.size 7 w1.heap.size 8 w1.heap.size 9 w1.heap.size 10 w1.heap.size 11;have wb_b:Below w.heap.size w wb:=(by rw [hwb];exact bg);clear hwb);(have hne:¬w.heap.size=w1.heap.size:=(by omega));go_region;(go_wp2_with fail))
     go_ret
     exact ⟨rfl,bg⟩
   ·have b2:decide (1≤o.count)=false:=by rw [decide_eq_false_iff_not];exact q2
    have hrf:r=false:=by rw [←hr];simp;omega
    clear hr
    subst hrf
    ((go_enter Tryz.func61,Tryz.ntmps61;(go_wp2_with fail);(refine calls_name fun wa hwa=>?_;have wa_s0:=sg w.heap.size hwa;obtain ⟨wa_c0,wa_c1,wa_c2,wa_c3,wa_c4,wa_c5,wa_c6,wa_c7,wa_c8,wa_c9,wa_c10,wa_c11⟩:=kz12 hwa w.heap.size (.int .i64 6) (.int .i64 o.client) (.int .i64 o.seq) (.string o.key) (.string o.who) (.string o.tkey) (.string o.twho) (.int .i64 o.item) (.int .i64 o.count) (.int .i64 o.price) (.bool o.buy) (.int .i64 o.id);have wa_b:Below w.heap.size w wa:=(by rw [hwa];exact bg);clear hwa);(refine (rplace_any o.key o.who _ true Hp.out).mono ?_);(rintro e w1 ⟨rfl,w1_h⟩;obtain ⟨w1_hc,w1_hf⟩:=bcell w1_h;have w1_z:=w1_h.size;have w1_b:=wa_b.trans (w1_h.mono (by have:=wa_b.size;omega));have w1_le:=w1_b.size;have w1_s0:w.heap.size<w1.heap.size:=(by omega);clear w1_h);(go_wp2_with fail));(refine wp_name fun wb hwb=>?_;have wb_s0:=sg w.heap.size hwb;have wb_s1:=sg w1.heap.size hwb;obtain ⟨wb_c0,wb_c1,wb_c2,wb_c3,wb_c4,wb_c5,wb_c6,wb_c7,wb_c8,wb_c9,wb_c10,wb_c11⟩:=kz12 hwb w.heap.size (.int .i64 6) (.int .i64 o.client) (.int .i64 o.seq) (.string o.key) (.string o.who) (.string o.tkey) (.string o.twho) (.int .i64 o.item) (.int .i64 o.count) (.int .i64 o.price) (.bool o.buy) (.int .i64 o.id);obtain ⟨wb_c12,wb_c13,wb_c14,wb_c15,wb_c16,wb_c17,wb_c18,wb_c19,wb_c20,wb_c21,wb_c22,wb_c23⟩:=kz12 hwb w1.heap.size (.int .i64 6) (.int .i64 o.client) (.int .i64 o.seq) (.string o.key) (.string o.who) (.string ⟨#[]⟩) (.string ⟨#[]⟩) (.int .i64 0) (.int .i64 0) (.int .i64 0) (.bool false) (.int .i64 0);obtain ⟨wb_f17,wb_f18,wb_f19,wb_f20,wb_f21,wb_f22,wb_f23⟩:=ff7 hwb w1.heap.size 5 w1.heap.size 6 w1.heap.size 7 w1.heap.size 8 w1.heap.size 9 w1.heap.size 10 w1.heap.size 11;have wb_b:Below w.heap.size w wb:=(by rw [hwb];exact bg);clear hwb);(have hne:¬w.heap.size=w1.heap.size:=(by omega));go_region;(go_wp2_with fail))
    go_ret
    exact ⟨rfl,bg⟩
  ·have b1:decide (o.item≤3)=false:=by rw [decide_eq_false_iff_not];exact q1
   have hrf:r=false:=by rw [←hr];simp;omega
   clear hr
   subst hrf
   ((go_enter Tryz.func61,Tryz.ntmps61;(go_wp2_with fail);(refine calls_name fun wa hwa=>?_;have wa_s0:=sg w.heap.size hwa;obtain ⟨wa_c0,wa_c1,wa_c2,wa_c3,wa_c4,wa_c5,wa_c6,wa_c7,wa_c8,wa_c9,wa_c10,wa_c11⟩:=kz12 hwa w.heap.size (.int .i64 6) (.int .i64 o.client) (.int .i64 o.seq) (.string o.key) (.string o.who) (.string o.tkey) (.string o.twho) (.int .i64 o.item) (.int .i64 o.count) (.int .i64 o.price) (.bool o.buy) (.int .i64 o.id);have wa_b:Below w.heap.size w wa:=(by rw [hwa];exact bg);clear hwa);(refine (rplace_any o.key o.who _ true Hp.out).mono ?_);(rintro e w1 ⟨rfl,w1_h⟩;obtain ⟨w1_hc,w1_hf⟩:=bcell w1_h;have w1_z:=w1_h.size;have w1_b:=wa_b.trans (w1_h.mono (by have:=wa_b.size;omega));have w1_le:=w1_b.size;have w1_s0:w.heap.size<w1.heap.size:=(by omega);clear w1_h);(go_wp2_with fail));(refine wp_name fun wb hwb=>?_;have wb_s0:=sg w.heap.size hwb;have wb_s1:=sg w1.heap.size hwb;obtain ⟨wb_c0,wb_c1,wb_c2,wb_c3,wb_c4,wb_c5,wb_c6,wb_c7,wb_c8,wb_c9,wb_c10,wb_c11⟩:=kz12 hwb w.heap.size (.int .i64 6) (.int .i64 o.client) (.int .i64 o.seq) (.string o.key) (.string o.who) (.string o.tkey) (.string o.twho) (.int .i64 o.item) (.int .i64 o.count) (.int .i64 o.price) (.bool o.buy) (.int .i64 o.id);obtain ⟨wb_c12,wb_c13,wb_c14,wb_c15,wb_c16,wb_c17,wb_c18,wb_c19,wb_c20,wb_c21,wb_c22,wb_c23⟩:=kz12 hwb w1.heap.size (.int .i64 6) (.int .i64 o.client) (.int .i64 o.seq) (.string o.key) (.string o.who) (.string ⟨#[]⟩) (.string ⟨#[]⟩) (.int .i64 0) (.int .i64 0) (.int .i64 0) (.bool false) (.int .i64 0);obtain ⟨wb_f17,wb_f18,wb_f19,wb_f20,wb_f21,wb_f22,wb_f23⟩:=ff7 hwb w1.heap.size 5 w1.heap.size 6 w1.heap.size 7 w1.heap.size 8 w1.heap.size 9 w1.heap.size 10 w1.heap.size 11;have wb_b:Below w.heap.size w wb:=(by rw [hwb];exact bg);clear hwb);(have hne:¬w.heap.size=w1.heap.size:=(by omega));go_region;(go_wp2_with fail))
   go_ret
   exact ⟨rfl,bg⟩
 ·have b0:decide (0≤o.item)=false:=by rw [decide_eq_false_iff_not];exact q0
  have hrf:r=false:=by rw [←hr];simp;omega
  clear hr
  subst hrf
  ((go_enter Tryz.func61,Tryz.ntmps61;(go_wp2_with fail);(refine calls_name fun wa hwa=>?_;have wa_s0:=sg w.heap.size hwa;obtain ⟨wa_c0,wa_c1,wa_c2,wa_c3,wa_c4,wa_c5,wa_c6,wa_c7,wa_c8,wa_c9,wa_c10,wa_c11⟩:=kz12 hwa w.heap.size (.int .i64 6) (.int .i64 o.client) (.int .i64 o.seq) (.string o.key) (.string o.who) (.string o.tkey) (.string o.twho) (.int .i64 o.item) (.int .i64 o.count) (.int .i64 o.price) (.bool o.buy) (.int .i64 o.id);have wa_b:Below w.heap.size w wa:=(by rw [hwa];exact bg);clear hwa);(refine (rplace_any o.key o.who _ true Hp.out).mono ?_);(rintro e w1 ⟨rfl,w1_h⟩;obtain ⟨w1_hc,w1_hf⟩:=bcell w1_h;have w1_z:=w1_h.size;have w1_b:=wa_b.trans (w1_h.mono (by have:=wa_b.size;omega));have w1_le:=w1_b.size;have w1_s0:w.heap.size<w1.heap.size:=(by omega);clear w1_h);(go_wp2_with fail));(refine wp_name fun wb hwb=>?_;have wb_s0:=sg w.heap.size hwb;have wb_s1:=sg w1.heap.size hwb;obtain ⟨wb_c0,wb_c1,wb_c2,wb_c3,wb_c4,wb_c5,wb_c6,wb_c7,wb_c8,wb_c9,wb_c10,wb_c11⟩:=kz12 hwb w.heap.size (.int .i64 6) (.int .i64 o.client) (.int .i64 o.seq) (.string o.key) (.string o.who) (.string o.tkey) (.string o.twho) (.int .i64 o.item) (.int .i64 o.count) (.int .i64 o.price) (.bool o.buy) (.int .i64 o.id);obtain ⟨wb_c12,wb_c13,wb_c14,wb_c15,wb_c16,wb_c17,wb_c18,wb_c19,wb_c20,wb_c21,wb_c22,wb_c23⟩:=kz12 hwb w1.heap.size (.int .i64 6) (.int .i64 o.client) (.int .i64 o.seq) (.string o.key) (.string o.who) (.string ⟨#[]⟩) (.string ⟨#[]⟩) (.int .i64 0) (.int .i64 0) (.int .i64 0) (.bool false) (.int .i64 0);obtain ⟨wb_f17,wb_f18,wb_f19,wb_f20,wb_f21,wb_f22,wb_f23⟩:=ff7 hwb w1.heap.size 5 w1.heap.size 6 w1.heap.size 7 w1.heap.size 8 w1.heap.size 9 w1.heap.size 10 w1.heap.size 11;have wb_b:Below w.heap.size w wb:=(by rw [hwb];exact bg);clear hwb);(have hne:¬w.heap.size=w1.heap.size:=(by omega));go_region;(go_wp2_with fail))
  go_ret
  exact ⟨rfl,bg⟩
end Go.Proofs.YthlcmjgdilebeaaGreat
namespace Go.Proofs.YthlcmjgdilebeaaGreat
open Go.RowKit
set_option maxRecDepth 100000 in
set_option maxHeartbeats 8000000 in
theorem rmay_7 (o:Rq) (w:World) (r:Bool) (c1:1≤o.client) (c2:o.client≤1048576) (c3:1≤o.seq) (c4:o.seq≤1099511627776) (hp:placeB o.key o.who=true) (hr:mayO { o with kind:=7 }=r) :
 Calls Tryz.prog 61 #[.agg #[.int .i64 7,.int .i64 o.client,.int .i64 o.seq,.string o.key,.string o.who,.string o.tkey,.string o.twho,.int .i64 o.item,.int .i64 o.count,.int .i64 o.price,.bool o.buy,.int .i64 o.id]] w fun e w'=>e=.returned (.bool r)∧Below w.heap.size w w':=by
 have Hp:=Lib.hid hp
 have hkind:kindO { o with kind:=7 }=barO { o with kind:=7 }:=by simp [kindO]
 have hr2:kindO { o with kind:=7 }=r:=by rw [←hr];simp [mayO,hp,c1,c2,c3,c4]
 rw [hkind] at hr2
 clear hp hr hkind
 have hr:=hr2
 simp only [barO] at hr
 clear hr2
 have d2:decide (1048576<o.client)=false:=by rw [decide_eq_false_iff_not];omega
 have d1:decide (o.client<1)=false:=by rw [decide_eq_false_iff_not];omega
 have d3:decide (o.seq<1)=false:=by rw [decide_eq_false_iff_not];omega
 have d4:decide (1099511627776<o.seq)=false:=by rw [decide_eq_false_iff_not];omega
 have heq:=fun w=>eql_api.Op ⟨7,o.client,o.seq,o.key,o.who,⟨#[]⟩,⟨#[]⟩,0,0,0,false,0⟩ { o with kind:=7 } w r (by rw [eqR_comm,←hr];simp [eqR])
 simp only at heq
 clear hr
 (go_enter Tryz.func61,Tryz.ntmps61;(go_wp2_with fail);(refine calls_name fun wa hwa=>?_;have wa_s0:=sg w.heap.size hwa;obtain ⟨wa_c0,wa_c1,wa_c2,wa_c3,wa_c4,wa_c5,wa_c6,wa_c7,wa_c8,wa_c9,wa_c10,wa_c11⟩:=kz12 hwa w.heap.size (.int .i64 7) (.int .i64 o.client) (.int .i64 o.seq) (.string o.key) (.string o.who) (.string o.tkey) (.string o.twho) (.int .i64 o.item) (.int .i64 o.count) (.int .i64 o.price) (.bool o.buy) (.int .i64 o.id);have wa_b:Below w.heap.size w wa:=(by rw [hwa];exact bg);clear hwa);(refine (rplace_any o.key o.who _ true Hp.out).mono ?_);(rintro e w1 ⟨rfl,w1_h⟩;obtain ⟨w1_hc,w1_hf⟩:=bcell w1_h;have w1_z:=w1_h.size;have w1_b:=wa_b.trans (w1_h.mono (by have:=wa_b.size;omega));have w1_le:=w1_b.size;have w1_s0:w.heap.size<w1.heap.size:=(by omega);clear w1_h);(go_wp2_with fail))
 go_ret
 exact ⟨rfl,bg⟩
end Go.Proofs.YthlcmjgdilebeaaGreat
namespace Go.Proofs.YthlcmjgdilebeaaGreat
open Go.RowKit
theorem rmay_any (o:Rq) (w:World) (r:Bool) (hr:mayO o=r) :
 Calls Tryz.prog 61 #[.agg #[.int .i64 o.kind,.int .i64 o.client,.int .i64 o.seq,.string o.key,.string o.who,.string o.tkey,.string o.twho,.int .i64 o.item,.int .i64 o.count,.int .i64 o.price,.bool o.buy,.int .i64 o.id]] w fun e w'=>e=.returned (.bool r)∧Below w.heap.size w w':=by
 cases hq:(decide (1≤o.client∧o.client≤1048576∧1≤o.seq∧o.seq≤1099511627776)&&placeB o.key o.who) with
 | false =>
  have:r=false:=by rw [←hr];unfold mayO;rw [hq,Bool.false_and]
  subst this
  exact rmay_no o w hq
 | true =>
  have hq2:=hq
  simp only [Bool.and_eq_true,decide_eq_true_eq] at hq2
  obtain ⟨⟨c1,c2,c3,c4⟩,hp⟩:=hq2
  by_cases hk:o.kind<1∨7<o.kind
  ·have:r=false:=by
    rw [←hr];unfold mayO
    have:kindO o=false:=by
     unfold kindO
     rw [if_neg (by omega),if_neg (by omega),if_neg (by omega),if_neg (by omega),if_neg (by omega)]
    rw [this,Bool.and_false]
   subst this
   exact rmay_out o w c1 c2 c3 c4 hp hk
  ·obtain ⟨kind,client,seq,key,who,tkey,twho,item,count,price,buy,id⟩:=o
   simp only at *
   have h2:kind=1∨kind=2∨kind=3∨kind=4∨kind=5∨kind=6∨kind=7:=by omega
   rcases h2 with rfl | rfl | rfl | rfl | rfl | rfl | rfl
   ·exact rmay_1 ⟨1,client,seq,key,who,tkey,twho,item,count,price,buy,id⟩ w r c1 c2 c3 c4 hp hr
   ·exact rmay_2 ⟨2,client,seq,key,who,tkey,twho,item,count,price,buy,id⟩ w r c1 c2 c3 c4 hp hr
   ·exact rmay_3 ⟨3,client,seq,key,who,tkey,twho,item,count,price,buy,id⟩ w r c1 c2 c3 c4 hp hr
   ·exact rmay_4 ⟨4,client,seq,key,who,tkey,twho,item,count,price,buy,id⟩ w r c1 c2 c3 c4 hp hr
   ·exact rmay_5 ⟨5,client,seq,key,who,tkey,twho,item,count,price,buy,id⟩ w r c1 c2 c3 c4 hp hr
   ·exact rmay_6 ⟨6,client,seq,key,who,tkey,twho,item,count,price,buy,id⟩ w r c1 c2 c3 c4 hp hr
   ·exact rmay_7 ⟨7,client,seq,key,who,tkey,twho,item,count,price,buy,id⟩ w r c1 c2 c3 c4 hp hr
end Go.Proofs.YthlcmjgdilebeaaGreat
namespace Go.Proofs.YthlcmjgdilebeaaGreat
open Go.RowKit
set_option maxRecDepth 20000 in
set_option maxHeartbeats 1000000 in
theorem get_any {W w:World} {L:List Th} {p g:Nat} {rest:List UInt8} {bad:Bool} (h:St W w (thRO W p g rest bad::L)) (hm:rest.length≤140737488351232) (x:List UInt8) (r1:List UInt8) (b1:Bool) (hx:tookOf rest bad=(x,r1,b1)) (y:List UInt8) (r2:List UInt8) (b2:Bool) (hy:tookOf r1 b1=(y,r2,b2)) :
 Calls Tryz.prog 112 #[.pointer (some ⟨p,0,none⟩)] w fun e w'=>e=.returned (.agg #[.string ⟨x.toArray⟩,.string ⟨y.toArray⟩])∧St W w' (thRO W p g r2 b2::L):=by
 have H:=Lib.hid h
 have Hx:=Lib.hid hx
 have Hy:=Lib.hid hy
 have Hl:Hid (r1.length≤rest.length):=(tookOf_le (x:=x) (r':=r1) (b':=b1) hx.symm).2
 clear h hx hy
 go_enter Tryz.func112,Tryz.ntmps112
 go_wp2_with fail
 have S0:Hid (St W _ (thRO W p g rest bad::thObj w.heap.size (.cells #[.string ⟨#[]⟩,.string ⟨#[]⟩] 26 (0,0))::L)):=(H.out.objN (.cells #[.string ⟨#[]⟩,.string ⟨#[]⟩] 26) w.heap.size rfl).pull (A:=[_])
 clear H
 have hcall:=St.readBytesO S0.out hm
 rw [Hx.out] at hcall
 refine hcall.mono ?_
 clear hcall S0
 rintro e w1 ⟨ao,ac,rfl,ho,hS⟩
 have S1:=Lib.hid hS
 have hcv:=conv_str ho.at ac
 clear ho hS
 go_wp2_with fail
 clear hcv
 have hcall:=St.readBytesO S1.out (by have:=Hl.out;omega)
 rw [Hy.out] at hcall
 refine hcall.mono ?_
 clear hcall S1
 rintro e w2 ⟨bo,bc,rfl,ho,hS⟩
 have S2:=Lib.hid hS
 obtain ⟨hl1,hc1,hf1⟩:=S2.out.cellsN 1 rfl
 have hcv:=conv_str ho.at bc
 clear ho hS
 go_wp2_with fail
 have S3:=Lib.hid ((((S2.out.pull (A:=[_])).setObj 0 (.string ⟨x.toArray⟩)).setObj 1 (.string ⟨y.toArray⟩)).drop)
 refine bodyPost_ret (v:=.agg #[.string ⟨x.toArray⟩,.string ⟨y.toArray⟩]) (by simp only [results,Tryz.results112];go_simp) rfl ⟨rfl,S3.out⟩
structure DIn (l:List UInt8) (d:Dq) (r3:List UInt8) (b3:Bool) (r7:List UInt8) (b7:Bool) (r1:List UInt8) (b1:Bool) (r2:List UInt8) (b2:Bool) (s1:List UInt8) (c1:Bool) (s2:List UInt8) (c2:Bool) (s3:List UInt8) (c3:Bool) (s4:List UInt8) (c4:Bool):Prop where
 na:numT l false=(d.k,r1,b1)
 nb:numT r1 b1=(d.c,r2,b2)
 nc:numT r2 b2=(d.s,r3,b3)
 ma:numT r7 b7=(d.i,s1,c1)
 mb:numT s1 c1=(d.n,s2,c2)
 mc:numT s2 c2=(d.p,s3,c3)
 md:numT s3 c3=(d.b,s4,c4)
 me:numT s4 c4=(d.d,d.rest,d.bad)
 la:r1.length≤l.length
 lb:r2.length≤l.length
 va:s1.length≤r7.length
 vb:s2.length≤r7.length
 vc:s3.length≤r7.length
 vd:s4.length≤r7.length
theorem dec_nums {l:List UInt8} {d:Dq} {r3:List UInt8} {b3:Bool} {r4:List UInt8} {b4:Bool} {r5:List UInt8} {b5:Bool} {r6:List UInt8} {b6:Bool} {r7:List UInt8} {b7:Bool} (h:DIs l d r3 b3 r4 b4 r5 b5 r6 b6 r7 b7) :
 ∃ r1 b1 r2 b2 s1 c1 s2 c2 s3 c3 s4 c4,DIn l d r3 b3 r7 b7 r1 b1 r2 b2 s1 c1 s2 c2 s3 c3 s4 c4:=by
 refine ⟨(rdSt l false 1).1,(rdSt l false 1).2,(rdSt l false 2).1,(rdSt l false 2).2,(rdSt r7 b7 1).1,(rdSt r7 b7 1).2,(rdSt r7 b7 2).1,(rdSt r7 b7 2).2,(rdSt r7 b7 3).1,(rdSt r7 b7 3).2,(rdSt r7 b7 4).1,(rdSt r7 b7 4).2,⟨?_,?_,?_,?_,?_,?_,?_,?_,rdSt_le _ _ _,rdSt_le _ _ _,rdSt_le _ _ _,rdSt_le _ _ _,rdSt_le _ _ _,rdSt_le _ _ _⟩⟩
 ·rw [h.qk];exact rd_step l false 0 1 rfl
 ·rw [h.qc];exact rd_step l false 1 2 rfl
 ·rw [h.qs,h.q3,h.p3];exact rd_step l false 2 3 rfl
 ·rw [h.qi];exact rd_step r7 b7 0 1 rfl
 ·rw [h.qn];exact rd_step r7 b7 1 2 rfl
 ·rw [h.qp];exact rd_step r7 b7 2 3 rfl
 ·rw [h.qb];exact rd_step r7 b7 3 4 rfl
 ·rw [h.qd,h.qr,h.qx];exact rd_step r7 b7 4 5 rfl
set_option maxRecDepth 40000 in
set_option maxHeartbeats 4000000 in
theorem rdec_any (ao:Option Addr) (cap:Nat) (l:List UInt8) (w:World) (hlc:l.length≤cap) (hcm:cap≤9223372036854775807) (h0:ao=none→l.length=0∧cap=0) (ha:BAt w ao l) (hm:l.length≤2000) :
 Calls Tryz.prog 93 #[.slice ao l.length cap] w (DecPost w l):=by
 obtain ⟨d,r3,b3,r4,b4,r5,b5,r6,b6,r7,b7,hd,HI⟩:=dec_parts l
 obtain ⟨r1,b1,r2,b2,s1,c1,s2,c2,s3,c3,s4,c4,HN⟩:=dec_nums HI
 have HI:=Lib.hid HI
 have HN:=Lib.hid HN
 have Hd:=Lib.hid hd
 have Hnew:=Lib.hid (((St.start w).objN (.cells #[.int .i64 0,.int .i64 0,.int .i64 0,.string ⟨#[]⟩,.string ⟨#[]⟩,.string ⟨#[]⟩,.string ⟨#[]⟩,.int .i64 0,.int .i64 0,.int .i64 0,.bool false,.int .i64 0] 28) w.heap.size rfl).newRO (w.heap.size+1) (by simp) ao cap l hlc hcm h0 ha)
 have Hm:=Lib.hid hm
 clear hlc hcm h0 ha hd
 go_enter Tryz.func93,Tryz.ntmps93
 go_wp2_with fail
 obtain ⟨g,hS⟩:=Hnew.out
 have S0:=Lib.hid hS
 clear hS Hnew
 (have hcall:=St.readNumO S0.out (by have h1:=HN.out.la;have h2:=HN.out.lb;have h3:=HN.out.va;have h4:=HN.out.vb;have h5:=HN.out.vc;have h6:=HN.out.vd;have h7:=HI.out.le;omega);(rw [HN.out.na] at hcall);(refine hcall.mono ?_);clear hcall S0;(rintro e w1 ⟨rfl,hS⟩);(have S1:=Lib.hid hS);clear hS;(go_wp2_with fail))
 (have hcall:=St.readNumO S1.out (by have h1:=HN.out.la;have h2:=HN.out.lb;have h3:=HN.out.va;have h4:=HN.out.vb;have h5:=HN.out.vc;have h6:=HN.out.vd;have h7:=HI.out.le;omega);(rw [HN.out.nb] at hcall);(refine hcall.mono ?_);clear hcall S1;(rintro e w2 ⟨rfl,hS⟩);(have S2:=Lib.hid hS);clear hS;(go_wp2_with fail))
 (have hcall:=St.readNumO S2.out (by have h1:=HN.out.la;have h2:=HN.out.lb;have h3:=HN.out.va;have h4:=HN.out.vb;have h5:=HN.out.vc;have h6:=HN.out.vd;have h7:=HI.out.le;omega);(rw [HN.out.nc] at hcall);(refine hcall.mono ?_);clear hcall S2;(rintro e w3 ⟨rfl,hS⟩);(have S3:=Lib.hid hS);clear hS;(go_wp2_with fail))
 have S4:Hid (St w _ [thRO w (w.heap.size+1) g r3 b3,thObj w3.heap.size (.cells #[.int .i64 (d.k:Nat),.int .i64 (d.c:Nat),.int .i64 (d.s:Nat),.string ⟨#[]⟩,.string ⟨#[]⟩,.string ⟨#[]⟩,.string ⟨#[]⟩,.int .i64 0,.int .i64 0,.int .i64 0,.bool false,.int .i64 0] 28 (0,0)),thObj w.heap.size (.cells #[.int .i64 0,.int .i64 0,.int .i64 0,.string ⟨#[]⟩,.string ⟨#[]⟩,.string ⟨#[]⟩,.string ⟨#[]⟩,.int .i64 0,.int .i64 0,.int .i64 0,.bool false,.int .i64 0] 28 (0,0))]):=(S3.out.objN (.cells #[.int .i64 (d.k:Nat),.int .i64 (d.c:Nat),.int .i64 (d.s:Nat),.string ⟨#[]⟩,.string ⟨#[]⟩,.string ⟨#[]⟩,.string ⟨#[]⟩,.int .i64 0,.int .i64 0,.int .i64 0,.bool false,.int .i64 0] 28) w3.heap.size rfl).pull (A:=[_])
 clear S3
 refine (get_any S4.out (by have:=HI.out.la;omega) _ _ _ HI.out.ta _ _ _ HI.out.tb).mono ?_
 rintro e w4 ⟨rfl,hS⟩
 have S5:=Lib.hid hS
 obtain ⟨hl1,hc1,hf1⟩:=S5.out.cellsN 1 rfl
 clear hS S4
 go_wp2_with fail
 have S6:=Lib.hid ((((S5.out.pull (A:=[_])).setObj 3 (.string ⟨d.key.toArray⟩)).setObj 4 (.string ⟨d.who.toArray⟩)).pull (A:=[_]))
 clear S5 hl1 hc1 hf1
 refine (get_any S6.out (by have:=HI.out.lc;omega) _ _ _ HI.out.tc _ _ _ HI.out.td).mono ?_
 rintro e w5 ⟨rfl,hS⟩
 have S7:=Lib.hid hS
 obtain ⟨hl1,hc1,hf1⟩:=S7.out.cellsN 1 rfl
 clear hS S6
 go_wp2_with fail
 have S8:=Lib.hid ((((S7.out.pull (A:=[_])).setObj 5 (.string ⟨d.tkey.toArray⟩)).setObj 6 (.string ⟨d.twho.toArray⟩)).pull (A:=[_]))
 clear S7 hl1 hc1 hf1
 (have hcall:=St.readNumO S8.out (by have h1:=HN.out.la;have h2:=HN.out.lb;have h3:=HN.out.va;have h4:=HN.out.vb;have h5:=HN.out.vc;have h6:=HN.out.vd;have h7:=HI.out.le;omega);(rw [HN.out.ma] at hcall);(refine hcall.mono ?_);clear hcall S8;(rintro e w6 ⟨rfl,hS⟩);(have S9:=Lib.hid hS);clear hS;(go_wp2_with fail))
 (have hcall:=St.readNumO S9.out (by have h1:=HN.out.la;have h2:=HN.out.lb;have h3:=HN.out.va;have h4:=HN.out.vb;have h5:=HN.out.vc;have h6:=HN.out.vd;have h7:=HI.out.le;omega);(rw [HN.out.mb] at hcall);(refine hcall.mono ?_);clear hcall S9;(rintro e w7 ⟨rfl,hS⟩);(have S10:=Lib.hid hS);clear hS;(go_wp2_with fail))
 have hcall:=St.readNumO S10.out (by have h5:=HN.out.vb;have h7:=HI.out.le;omega)
 rw [HN.out.mc] at hcall
 refine hcall.mono ?_
 clear hcall S10
 rintro e w8 ⟨rfl,hS⟩
 have S11:=Lib.hid hS
 obtain ⟨hl1,hc1,hf1⟩:=S11.out.cellsN 1 rfl
 clear hS
 go_wp2_with fail
 have S12:=Lib.hid (((((S11.out.pull (A:=[_])).setObj 7 (.int .i64 (d.i:Nat))).setObj 8 (.int .i64 (d.n:Nat))).setObj 9 (.int .i64 (d.p:Nat))).pull (A:=[_]))
 clear S11 hl1 hc1 hf1
 have hcall:=St.readNumO S12.out (by have h5:=HN.out.vc;have h7:=HI.out.le;omega)
 rw [HN.out.md] at hcall
 refine hcall.mono ?_
 clear hcall S12
 rintro e w9 ⟨rfl,hS⟩
 have S13:Hid (St w w9 [thRO w (w.heap.size+1) g s4 c4,thObj w3.heap.size (.cells #[.int .i64 (d.k:Nat),.int .i64 (d.c:Nat),.int .i64 (d.s:Nat),.string ⟨d.key.toArray⟩,.string ⟨d.who.toArray⟩,.string ⟨d.tkey.toArray⟩,.string ⟨d.twho.toArray⟩,.int .i64 (d.i:Nat),.int .i64 (d.n:Nat),.int .i64 (d.p:Nat),.bool false,.int .i64 0] 28 (0,0)),thObj w.heap.size (.cells #[.int .i64 0,.int .i64 0,.int .i64 0,.string ⟨#[]⟩,.string ⟨#[]⟩,.string ⟨#[]⟩,.string ⟨#[]⟩,.int .i64 0,.int .i64 0,.int .i64 0,.bool false,.int .i64 0] 28 (0,0))]):=hS
 obtain ⟨hl1,hc1,hf1⟩:=S13.out.cellsN 1 rfl
 clear hS
 obtain ⟨bb,hbb⟩:∃ bb:Bool,bb=(d.b==1):=⟨_,rfl⟩
 have hbi:((d.b:Int)==1)=bb:=by rw [hbb];exact Bool.eq_iff_iff.2 (by simp only [beq_iff_eq];omega)
 have Hbb:=Lib.hid hbb
 clear hbb
 go_wp2_with fail
 have S14:Hid (St w _ [thRO w (w.heap.size+1) g s4 c4,thObj w3.heap.size (.cells #[.int .i64 (d.k:Nat),.int .i64 (d.c:Nat),.int .i64 (d.s:Nat),.string ⟨d.key.toArray⟩,.string ⟨d.who.toArray⟩,.string ⟨d.tkey.toArray⟩,.string ⟨d.twho.toArray⟩,.int .i64 (d.i:Nat),.int .i64 (d.n:Nat),.int .i64 (d.p:Nat),.bool bb,.int .i64 0] 28 (0,0)),thObj w.heap.size (.cells #[.int .i64 0,.int .i64 0,.int .i64 0,.string ⟨#[]⟩,.string ⟨#[]⟩,.string ⟨#[]⟩,.string ⟨#[]⟩,.int .i64 0,.int .i64 0,.int .i64 0,.bool false,.int .i64 0] 28 (0,0))]):=((S13.out.pull (A:=[_])).setObj 10 (.bool bb)).pull (A:=[_])
 clear S13 hl1 hc1 hf1 hbi
 have hcall:=St.readNumO S14.out (by have h5:=HN.out.vd;have h7:=HI.out.le;omega)
 rw [HN.out.me] at hcall
 refine hcall.mono ?_
 clear hcall S14
 rintro e w10 ⟨rfl,hS⟩
 have S15:=Lib.hid hS
 obtain ⟨hl1,hc1,hf1⟩:=S15.out.cellsN 1 rfl
 clear hS
 go_wp2_with fail
 obtain ⟨w11,hw11⟩:∃ w11,w11=w10.setCell ⟨w3.heap.size,11,none⟩ (.int .i64 (d.d:Nat)):=⟨_,rfl⟩
 have S16:Hid (St w w11 [thRO w (w.heap.size+1) g d.rest d.bad,thObj w3.heap.size (.cells #[.int .i64 (d.k:Nat),.int .i64 (d.c:Nat),.int .i64 (d.s:Nat),.string ⟨d.key.toArray⟩,.string ⟨d.who.toArray⟩,.string ⟨d.tkey.toArray⟩,.string ⟨d.twho.toArray⟩,.int .i64 (d.i:Nat),.int .i64 (d.n:Nat),.int .i64 (d.p:Nat),.bool bb,.int .i64 (d.d:Nat)] 28 (0,0)),thObj w.heap.size (.cells #[.int .i64 0,.int .i64 0,.int .i64 0,.string ⟨#[]⟩,.string ⟨#[]⟩,.string ⟨#[]⟩,.string ⟨#[]⟩,.int .i64 0,.int .i64 0,.int .i64 0,.bool false,.int .i64 0] 28 (0,0))]):=by
  rw [hw11];exact ((S15.out.pull (A:=[_])).setObj 11 (.int .i64 (d.d:Nat))).pull (A:=[_])
 rw [←hw11]
 clear S15 hl1 hc1 hf1 hw11
 have HQ:Hid (dqQ d=⟨d.k,d.c,d.s,⟨d.key.toArray⟩,⟨d.who.toArray⟩,⟨d.tkey.toArray⟩,⟨d.twho.toArray⟩,d.i,d.n,d.p,bb,d.d⟩):=by rw [Hbb.out];rfl
 have HG:Hid (goodD l=(wholeD d&&decide (d.b≤1)&&mayO (dqQ d))):=by rw [Hd.out];rfl
 have hwh:=St.wholeO S16.out
 obtain ⟨hl0,hc0,hf0⟩:=S16.out.cellsN 2 rfl
 obtain ⟨hl1,hc1,hf1⟩:=S16.out.cellsN 1 rfl
 have hb11:=S16.out.b
 cases hz:(!d.bad&&d.rest.isEmpty) with
 | false =>
  have HGf:Hid (goodD l=false):=by rw [HG.out];unfold wholeD;rw [hz];simp [Hid]
  rw [hz] at hwh
  have Hwh:=Lib.hid hwh
  clear hz hwh HG
  refine Hwh.out.mono ?_
  rintro e w12 ⟨rfl,rfl⟩
  (go_wp2_with fail);exact bodyPost_ret (v:=.tuple #[.agg #[.int .i64 0,.int .i64 0,.int .i64 0,.string ⟨#[]⟩,.string ⟨#[]⟩,.string ⟨#[]⟩,.string ⟨#[]⟩,.int .i64 0,.int .i64 0,.int .i64 0,.bool false,.int .i64 0],.int .i64 3]) (by simp only [results,Tryz.results93];go_simp) rfl ⟨bg,by rw [if_neg (by rw [HGf.out];simp)]⟩
 | true =>
  have HGz:Hid (goodD l=(decide (d.b≤1)&&mayO (dqQ d))):=by rw [HG.out];unfold wholeD;rw [hz,Bool.true_and];rfl
  rw [hz] at hwh
  have Hwh:=Lib.hid hwh
  clear hz hwh HG
  by_cases hb1:d.b≤1
  ·have HGy:Hid (goodD l=mayO (dqQ d)):=by rw [HGz.out,decide_eq_true hb1,Bool.true_and];rfl
   have hdb:decide ((1:Int)<d.b)=false:=by rw [decide_eq_false_iff_not];omega
   have hmy:=fun w=>rmay_any (dqQ d) w _ rfl
   rw [HQ.out] at hmy
   simp only at hmy
   obtain ⟨my,hmy2⟩:∃ my,my=mayO (dqQ d):=⟨_,rfl⟩
   have hmy3:=hmy2
   rw [HQ.out] at hmy3
   rw [←hmy3] at hmy
   rw [←hmy2] at HGy
   have Hmy:=Lib.hid hmy
   clear hmy hmy2 hmy3 HGz hb1
   refine Hwh.out.mono ?_
   rintro e w12 ⟨rfl,rfl⟩
   go_wp2_with fail
   refine (Hmy.out _).mono ?_
   rintro e w13 ⟨rfl,hb⟩
   have S17:=Lib.hid (S16.out.grow hb)
   clear hb hl0 hc0 hf0 hl1 hc1 hf1 hb11 S16
   obtain ⟨hl0,hc0,hf0⟩:=S17.out.cellsN 2 rfl
   obtain ⟨hl1,hc1,hf1⟩:=S17.out.cellsN 1 rfl
   have hb13:=S17.out.b
   cases my with
   | false =>
    have HGf:Hid (goodD l=false):=HGy
    (go_wp2_with fail);exact bodyPost_ret (v:=.tuple #[.agg #[.int .i64 0,.int .i64 0,.int .i64 0,.string ⟨#[]⟩,.string ⟨#[]⟩,.string ⟨#[]⟩,.string ⟨#[]⟩,.int .i64 0,.int .i64 0,.int .i64 0,.bool false,.int .i64 0],.int .i64 3]) (by simp only [results,Tryz.results93];go_simp) rfl ⟨bg,by rw [if_neg (by rw [HGf.out];simp)]⟩
   | true =>
    go_wp2_with fail
    refine bodyPost_ret (v:=.tuple #[.agg #[.int .i64 (d.k:Nat),.int .i64 (d.c:Nat),.int .i64 (d.s:Nat),.string ⟨d.key.toArray⟩,.string ⟨d.who.toArray⟩,.string ⟨d.tkey.toArray⟩,.string ⟨d.twho.toArray⟩,.int .i64 (d.i:Nat),.int .i64 (d.n:Nat),.int .i64 (d.p:Nat),.bool bb,.int .i64 (d.d:Nat)],.int .i64 0]) (by simp only [results,Tryz.results93];go_simp) rfl ⟨bg,?_⟩
    rw [if_pos HGy.out,←Hd.out,HQ.out]
  ·have HGf:Hid (goodD l=false):=by rw [HGz.out,decide_eq_false hb1];rfl
   have hdb:decide ((1:Int)<d.b)=true:=by rw [decide_eq_true_eq];omega
   clear HGz hb1
   refine Hwh.out.mono ?_
   rintro e w12 ⟨rfl,rfl⟩
   (go_wp2_with fail);exact bodyPost_ret (v:=.tuple #[.agg #[.int .i64 0,.int .i64 0,.int .i64 0,.string ⟨#[]⟩,.string ⟨#[]⟩,.string ⟨#[]⟩,.string ⟨#[]⟩,.int .i64 0,.int .i64 0,.int .i64 0,.bool false,.int .i64 0],.int .i64 3]) (by simp only [results,Tryz.results93];go_simp) rfl ⟨bg,by rw [if_neg (by rw [HGf.out];simp)]⟩
end Go.Proofs.YthlcmjgdilebeaaGreat